/- The walks: the code computes what the plain functions say. -/
import Derived.Test.YtiplelpjhgnmoaaGreatUModels
import Derived.Test.YtiplelpjhgnmoaaGreatUWalks1
set_option maxRecDepth 10000
set_option linter.unusedVariables false
namespace Go.Lift
open Go Go.Proofs
variable (G:GS) {n:Nat}
theorem kT{list}{r}(h:eP n list=some r):VQ G 231 [] [vM aB list] (ms 0 1 2 aB r) [ar 65 1 2 aB r]:=by
 unfold eP at h
 refine vq aO Tryz.func231 rfl fun w X β0 hC hg=> ?_
 refine rq hC [] [2] [] [] [] (rq hC [] [3] [(3,V.t T.nilS)] [] [] (qs (rq hC [oN aB list] [6,7,8] [(6,vM aB list),(7,vI (list.length:Int)),(8,vI 0)] [] [] (qb (qw (lk hC [.grow 3 20 65] [3] [(3,ms 20 1 2 aB [])] [(20,some (ar 65 1 2 aB []))] [(20,true)]) ?_)))))
 refine bA (γ:=Nat) h (fun x_ g_=>aX [(3,ms 20 g_ 2 aB x_.1),(6,vM aB list),(7,vI (list.length:Int)),(8,vI x_.2)] [(20,ar 65 g_ 2 aB x_.1)] [20]) 1 (lS) ?_
 rintro again4 ⟨x1,x2⟩ g3 h
 refine rq hC [] [9] [(9,vB (decide (x2<(list.length:Int))))] [] [] (qs (aT h (fun c1 h=> ?_) (fun c1 h=> ?_)))
 ·refine qk (qs (qb ?_))
  obtain⟨x5,hx5,h⟩:=bd h
  refine rq hC [oR aB hx5,.z (.nat 21)] [5,10,11] [(5,V.ref 21 0)] [(21,some (E.cells (aQ x5)))] [(21,true)] ?_
  obtain⟨x6,hx6,x7,hx7,h⟩:=cS h
  exact rk hC [oV (vG G n x5 hx6),.z (.int 0),oA (aP aB hx7),oQ (bZ (r:=aB) 2 bC x1),oQ (bZ (r:=aB) 2 bC [x6])] [3,12,13,14,15,16] [(3,ms 20 (g3+1) 2 aB x7)] [(20,some (ar 65 (g3+1) 2 aB x7))] [] (rk hC [] [8,17] [(8,vI (wr (x2+1)))] [] [] ⟨(x7,wr (x2+1)),(g3+1),h,lS⟩)
 ·obtain rfl:=so h
  exact cM (rq hC [] [2,18] [(2,ms 20 g3 2 aB x1)] [] [] (qw (lk hC [.ren 2 20 0] [2] [(2,ms 0 1 2 aB x1)] [(0,some (ar 65 1 2 aB x1)),(20,none)] [(0,true)]) (qr eW)))
theorem aCB{nest}{r}(h:lK n nest=some r):VQ G 175 [] [vM aC nest] (ms 0 1 2 aC r) [ar 58 1 2 aC r]:=by
 unfold lK at h
 refine vq aO Tryz.func175 rfl fun w X β0 hC hg=> ?_
 refine rq hC [] [2] [] [] [] (rq hC [] [3] [(3,V.t T.nilS)] [] [] (qs (rq hC [oN aC nest] [6,7,8] [(6,vM aC nest),(7,vI (nest.length:Int)),(8,vI 0)] [] [] (qb (qw (lk hC [.grow 3 20 58] [3] [(3,ms 20 1 2 aC [])] [(20,some (ar 58 1 2 aC []))] [(20,true)]) ?_)))))
 refine bA (γ:=Nat) h (fun x_ g_=>aX [(3,ms 20 g_ 2 aC x_.1),(6,vM aC nest),(7,vI (nest.length:Int)),(8,vI x_.2)] [(20,ar 58 g_ 2 aC x_.1)] [20]) 1 (lS) ?_
 rintro again4 ⟨x1,x2⟩ g3 h
 refine rq hC [] [9] [(9,vB (decide (x2<(nest.length:Int))))] [] [] (qs (aT h (fun c1 h=> ?_) (fun c1 h=> ?_)))
 ·refine qk (qs (qb ?_))
  obtain⟨x5,hx5,h⟩:=bd h
  refine rq hC [oR aC hx5,.z (.nat 21)] [5,10,11] [(5,V.ref 21 0)] [(21,some (E.cells (yN x5)))] [(21,true)] ?_
  obtain⟨x6,hx6,x7,hx7,x8,hx8,h⟩:=kY h
  exact dk hC bD [oC [] [22] (kT G hx6),oC [] [23] (kT G hx7),.z (.at 4),.z (.fz 22 [15] []),.z (.at 4),.z (.fz 23 [18] []),.z (.int 0),oA (aP aC hx8),oQ (bZ (r:=aC) 2 dO x1),oQ (bZ (r:=aC) 2 dO [(⟨x6,x7⟩:Loop)])] [3,12,13,14,15,16,17,18,19,20,21] [(3,ms 20 (g3+1) 2 aC x8)] [(22,none),(23,none),(20,some (ar 58 (g3+1) 2 aC x8))] [(22,true),(23,true)] (rk hC [] [8,22] [(8,vI (wr (x2+1)))] [] [] ⟨(x8,wr (x2+1)),(g3+1),h,lS⟩)
 ·obtain rfl:=so h
  exact cM (rq hC [] [2,23] [(2,ms 20 g3 2 aC x1)] [] [] (qw (lk hC [.ren 2 20 0] [2] [(2,ms 0 1 2 aC x1)] [(0,some (ar 58 1 2 aC x1)),(20,none)] [(0,true)]) (qr eW)))
theorem aCA{p}{r}(h:jX n p=some r):VQ G 130 [] [V.agg (Z5 p)] (V.agg [ms 0 1 2 aC r.nest,ms 1 1 9 aJ r.body]) [ar 58 1 2 aC r.nest,ar 87 1 9 aJ r.body]:=by
 unfold jX at h
 refine vq aO Tryz.func130 rfl fun w X β0 hC hg=> ?_
 refine rq hC [.z (.b (true)),.z (.nat 20)] [1,2] [(1,V.tp (pC p)),(2,V.ref 20 0)] [(20,sc [V.t T.nilS,V.t T.nilS])] [(20,true)] ?_
 obtain⟨x1,hx1,h⟩:=bd h
 refine rq hC [oC [] [21] (aCB G hx1),.z (.nat 22)] [3,6,7,8,9] [(3,V.ref 22 0)] [(21,some (ar 58 1 2 aC x1)),(22,sc [ms 21 1 2 aC x1,V.t T.nilS])] [(21,true),(22,true)] (qs (rq hC [oN aJ p.body] (fr 10 4) [(11,vM aJ p.body),(12,vI (p.body.length:Int)),(13,vI 0)] [] [] (qb (qw (lk hC [.growc 22 1 23 87] [] [] [(23,some (ar 87 1 9 aJ [])),(22,sc [ms 21 1 2 aC x1,ms 23 1 9 aJ []])] [(23,true)]) (bA (γ:=Nat) h (fun x_ g_=>aX [(2,V.ref 20 0),(3,V.ref 22 0),(11,vM aJ p.body),(12,vI (p.body.length:Int)),(13,vI x_.2)] [(20,E.cells [V.t T.nilS,V.t T.nilS]),(21,ar 58 1 2 aC x1),(22,E.cells [ms 21 1 2 aC x1,ms 23 g_ 9 aJ x_.1]),(23,ar 87 g_ 9 aJ x_.1)] [20,21,22,23]) 1 (lS) ?_)))))
 rintro again5 ⟨x2,x3⟩ g4 h
 refine rq hC [] [14] [(14,vB (decide (x3<(p.body.length:Int))))] [] [] (qs (aT h (fun c1 h=> ?_) (fun c1 h=> ?_)))
 ·refine qk (qs (qb ?_))
  obtain⟨x6,hx6,h⟩:=bd h
  refine rq hC [oR aJ hx6,.z (.nat 24)] [5,15,16] [(5,V.ref 24 0)] [(24,some (E.cells (d4 x6)))] [(24,true)] ?_
  obtain⟨x7,hx7,x8,hx8,h⟩:=cS h
  exact dk hC bD [oV (D9 G hx7),.z (.int 0),oA (aP aJ hx8),oQ (bZ (r:=aJ) 9 gF x2),oQ (bZ (r:=aJ) 9 gF [x7])] (fr 17 7) [] [(23,some (ar 87 (g4+1) 9 aJ x8)),(22,sc [ms 21 1 2 aC x1,ms 23 (g4+1) 9 aJ x8])] [] (rk hC [] [13,24] [(13,vI (wr (x3+1)))] [] [] ⟨(x8,wr (x3+1)),(g4+1),h,lS⟩)
 ·obtain rfl:=so h
  exact cM (rq hC [] [25] [] [(20,sc [ms 21 1 2 aC x1,ms 23 g4 9 aJ x2])] [] (qw (lk hC [.rn 21 0 [] [20,22]] [] [] [(20,sc [ms 0 1 2 aC x1,ms 23 g4 9 aJ x2]),(22,sc [ms 0 1 2 aC x1,ms 23 g4 9 aJ x2]),(21,none),(0,some (ar 58 1 2 aC x1))] [(0,true)]) (qw (lk hC [.rn 23 1 [] [20,22]] [] [] [(20,sc [ms 0 1 2 aC x1,ms 1 1 9 aJ x2]),(22,sc [ms 0 1 2 aC x1,ms 1 1 9 aJ x2]),(23,none),(1,some (ar 87 1 9 aJ x2))] [(1,true)]) (qr eW))))
theorem F9{p}{r}(h:dZ n p=some r):VQ G 81 [] [V.agg (bX p)] (V.agg [ms 0 1 2 aH r.arrays,ms 1 1 2 aD r.parts]) [ar 77 1 2 aH r.arrays,ar 62 1 2 aD r.parts]:=by
 unfold dZ at h
 refine vq aO Tryz.func81 rfl fun w X β0 hC hg=> ?_
 refine rq hC [.z (.b (true)),.z (.nat 20)] [1,2] [(1,V.tp (bU p)),(2,V.ref 20 0)] [(20,sc [V.t T.nilS,V.t T.nilS])] [(20,true)] (rq hC [.z (.nat 21)] [3] [(3,V.ref 21 0)] [(21,sc [V.t T.nilS,V.t T.nilS])] [(21,true)] (qs (rq hC [oN aH p.arrays] (fr 8 4) [(9,vM aH p.arrays),(10,vI (p.arrays.length:Int)),(11,vI 0)] [] [] (qb (qw (lk hC [.growc 21 0 22 77] [] [] [(22,some (ar 77 1 2 aH [])),(21,sc [ms 22 1 2 aH [],V.t T.nilS])] [(22,true)]) ?_)))))
 refine bA (γ:=Nat) h (fun x_ g_=>aX [(1,V.tp (bU p)),(2,V.ref 20 0),(3,V.ref 21 0),(9,vM aH p.arrays),(10,vI (p.arrays.length:Int)),(11,vI x_.2)] [(20,E.cells [V.t T.nilS,V.t T.nilS]),(21,E.cells [ms 22 g_ 2 aH x_.1,V.t T.nilS]),(22,ar 77 g_ 2 aH x_.1)] [20,21,22]) 1 (lS) ?_
 rintro again4 ⟨x1,x2⟩ g3 h
 refine rq hC [] [12] [(12,vB (decide (x2<(p.arrays.length:Int))))] [] [] (qs (aT h (fun c1 h=> ?_) (fun c1 h=> ?_)))
 ·refine qk (qs (qb ?_))
  obtain⟨x5,hx5,h⟩:=bd h
  refine rq hC [oR aH hx5,.z (.nat 23)] [5,13,14] [(5,V.ref 23 0)] [(23,sc [vS x5.name,vM rI x5.dims])] [(23,true)] ?_
  obtain⟨x6,hx6,x7,hx7,h⟩:=cS h
  exact dk hC bD [oC [] [24] (G.clone x5.dims hx6),.z (.at 5),.z (.fz 24 [21] []),.z (.int 0),oA (aP aH hx7),oQ (bZ (r:=aH) 2 iT x1),oQ (bZ (r:=aH) 2 iT [(⟨x5.name,x6⟩:Arr)])] (fr 15 11) [] [(24,none),(22,some (ar 77 (g3+1) 2 aH x7)),(21,sc [ms 22 (g3+1) 2 aH x7,V.t T.nilS])] [(24,true)] (rk hC [] [11,26] [(11,vI (wr (x2+1)))] [] [] ⟨(x7,wr (x2+1)),(g3+1),h,lS⟩)
 ·refine cM (qs (rq hC [oN aD p.parts] (fr 27 4) [(28,vM aD p.parts),(29,vI (p.parts.length:Int)),(30,vI 0)] [] [] (qb (qw (lk hC [.growc 21 1 23 62] [] [] [(23,some (ar 62 1 2 aD [])),(21,sc [ms 22 g3 2 aH x1,ms 23 1 2 aD []])] [(23,true)]) (bA (γ:=Nat) h (fun x_ g_=>aX [(2,V.ref 20 0),(3,V.ref 21 0),(28,vM aD p.parts),(29,vI (p.parts.length:Int)),(30,vI x_.2)] [(20,E.cells [V.t T.nilS,V.t T.nilS]),(21,E.cells [ms 22 g3 2 aH x1,ms 23 g_ 2 aD x_.1]),(22,ar 77 g3 2 aH x1),(23,ar 62 g_ 2 aD x_.1)] [20,21,22,23]) 1 (lS) ?_)))))
  rintro again11 ⟨x8,x9⟩ g10 h
  refine rq hC [] [31] [(31,vB (decide (x9<(p.parts.length:Int))))] [] [] (qs (aT h (fun c2 h=> ?_) (fun c2 h=> ?_)))
  ·refine qk (qs (qb ?_))
   obtain⟨x12,hx12,h⟩:=bd h
   refine rq hC [oR aD hx12,.z (.nat 24)] [7,32,33] [(7,V.ref 24 0)] [(24,some (E.cells (Z5 x12)))] [(24,true)] ?_
   obtain⟨x13,hx13,x14,hx14,h⟩:=cS h
   exact dk hC bD [oC [] [25,26] (aCA G hx13),.z (.at 4),.z (.fz 25 [37] []),.z (.at 4),.z (.fz 26 [37] []),.z (.int 0),oA (aP aD hx14),oQ (bZ (r:=aD) 2 fC x8),oQ (bZ (r:=aD) 2 fC [x13])] (fr 34 7) [] [(25,none),(26,none),(23,some (ar 62 (g10+1) 2 aD x14)),(21,sc [ms 22 g3 2 aH x1,ms 23 (g10+1) 2 aD x14])] [(25,true),(26,true)] (rk hC [] [30,41] [(30,vI (wr (x9+1)))] [] [] ⟨(x14,wr (x9+1)),(g10+1),h,lS⟩)
  ·obtain rfl:=so h
   exact cM (rq hC [] [42] [] [(20,sc [ms 22 g3 2 aH x1,ms 23 g10 2 aD x8])] [] (qw (lk hC [.rn 22 0 [] [20,21]] [] [] [(20,sc [ms 0 1 2 aH x1,ms 23 g10 2 aD x8]),(21,sc [ms 0 1 2 aH x1,ms 23 g10 2 aD x8]),(22,none),(0,some (ar 77 1 2 aH x1))] [(0,true)]) (qw (lk hC [.rn 23 1 [] [20,21]] [] [] [(20,sc [ms 0 1 2 aH x1,ms 1 1 2 aD x8]),(21,sc [ms 0 1 2 aH x1,ms 1 1 2 aD x8]),(23,none),(1,some (ar 62 1 2 aD x8))] [(1,true)]) (qr eW))))
theorem U4{nest}{r}(h:lK n nest=some r):VQ G 175 [] [vM aC nest] (ms 0 1 2 aC r) [E.tree fD 1 1 (List.map aC r) []]:=by
 unfold lK at h
 refine vq aO Tryz.func175 rfl fun w X β0 hC hg=> ?_
 refine rq hC [] [2] [] [] [] (rq hC [] [3] [(3,V.t T.nilS)] [] [] (qs (rq hC [oN aC nest] [6,7,8] [(6,vM aC nest),(7,vI (nest.length:Int)),(8,vI 0)] [] [] (qb (qw (lk hC [.grow 3 20 58,.tre 20 fD 1] [3] [(3,ms 20 1 2 aC [])] [(20,some (E.tree fD 1 1 (List.map aC []) []))] [(20,true)]) ?_)))))
 refine bA (γ:=Nat) h (fun x_ g_=>aX [(3,ms 20 g_ 2 aC x_.1),(6,vM aC nest),(7,vI (nest.length:Int)),(8,vI x_.2)] [(20,E.tree fD 1 g_ (List.map aC x_.1) [])] [20]) 1 (lS) ?_
 rintro again4 ⟨x1,x2⟩ g3 h
 refine rq hC [] [9] [(9,vB (decide (x2<(nest.length:Int))))] [] [] (qs (aT h (fun c1 h=> ?_) (fun c1 h=> ?_)))
 ·refine qk (qs (qb ?_))
  obtain⟨x5,hx5,h⟩:=bd h
  refine rq hC [oR aC hx5,.z (.nat 21)] [5,10,11] [(5,V.ref 21 0)] [(21,some (E.cells (yN x5)))] [(21,true)] ?_
  obtain⟨x6,hx6,x7,hx7,x8,hx8,h⟩:=kY h
  exact dk hC bD [oC [] [22] (kT G hx6),oC [] [23] (kT G hx7),.z (.lt 24 fD 1),.z (.rows (List.map aC (x1++[(⟨[],[]⟩:Loop)]))),oQ (Eq.refl (ndOf fD 1)),oQ (aIc aC (⟨[],[]⟩:Loop) hx8),oQ (bZ (r:=aC) 2 dO x1),oQ (bZ (r:=aC) 2 dO [(⟨[],[]⟩:Loop)])] [3,12,13,14,15,16,17,18,19,20,21] [(3,ms 20 (g3+1) 2 aC (x1++[(⟨[],[]⟩:Loop)]))] [(22,some (ar 65 1 2 aB x6)),(23,some (ar 65 1 2 aB x7)),(24,some (E.tree fD 1 1 (List.map aC [(⟨[],[]⟩:Loop)]) [(0,0,ms 22 1 2 aB x6),(0,1,ms 23 1 2 aB x7)])),(20,some (E.tree fD 1 (g3+1) (List.map aC (x1++[(⟨[],[]⟩:Loop)])) (nW (List.map aC x1).length [(0,0,ms 22 1 2 aB x6),(0,1,ms 23 1 2 aB x7)])))] [(22,true),(23,true),(24,true)] (qw (zQ hC [.tre 22 fD 3,.unf 20 22 (aC (⟨[],[]⟩:Loop)) (List.map aC (x1++[(⟨x6,[]⟩:Loop)])),.tre 23 fD 3,.unf 20 23 (aC (⟨x6,[]⟩:Loop)) (List.map aC x8),.len 3 (List.map aC x8).length] [3] [(3,ms 20 (g3+1) 2 aC x8)] [(22,none),(23,none),(20,some (E.tree fD 1 (g3+1) (List.map aC x8) []))] [] (a9 (Eq.refl (List.map aB x6).length) (Eq.refl fD) (aAs aC x1 (⟨[],[]⟩:Loop)) (aGM aC x1 (ph:=(⟨[],[]⟩:Loop)) (y:=(⟨x6,[]⟩:Loop)) rfl) (Eq.refl (List.map aB x7).length) (Eq.refl fD) (aAs aC x1 (⟨x6,[]⟩:Loop)) (aBB aC (ph:=(⟨x6,[]⟩:Loop)) hx8 rfl) (aG6 aC (⟨[],[]⟩:Loop) hx8)) (by kernel_rfl)) (rk hC [] [8,22] [(8,vI (wr (x2+1)))] [] [] ⟨(x8,wr (x2+1)),(g3+1),h,lS⟩))
 ·obtain rfl:=so h
  exact cM (rq hC [] [2,23] [(2,ms 20 g3 2 aC x1)] [] [] (qw (lk hC [.rn 20 0 [2,3] []] [2,3] [(2,ms 0 1 2 aC x1),(3,ms 0 1 2 aC x1)] [(20,none),(0,some (E.tree fD 1 1 (List.map aC x1) []))] [(0,true)]) (qr eW)))
theorem U3{p}{r}(h:jX n p=some r):VQ G 130 [] [V.agg (Z5 p)] (V.agg [ms 0 1 2 aC r.nest,ms 1 1 9 aJ r.body]) [E.tree fD 1 1 (List.map aC r.nest) [],ar 87 1 9 aJ r.body]:=by
 unfold jX at h
 refine vq aO Tryz.func130 rfl fun w X β0 hC hg=> ?_
 refine rq hC [.z (.b (true)),.z (.nat 20)] [1,2] [(1,V.tp (pC p)),(2,V.ref 20 0)] [(20,sc [V.t T.nilS,V.t T.nilS])] [(20,true)] ?_
 obtain⟨x1,hx1,h⟩:=bd h
 refine rq hC [oC [] [21] (U4 G hx1),.z (.nat 22)] [3,6,7,8,9] [(3,V.ref 22 0)] [(21,some (E.tree fD 1 1 (List.map aC x1) [])),(22,sc [ms 21 1 2 aC x1,V.t T.nilS])] [(21,true),(22,true)] (qs (rq hC [oN aJ p.body] (fr 10 4) [(11,vM aJ p.body),(12,vI (p.body.length:Int)),(13,vI 0)] [] [] (qb (qw (lk hC [.growc 22 1 23 87] [] [] [(23,some (ar 87 1 9 aJ [])),(22,sc [ms 21 1 2 aC x1,ms 23 1 9 aJ []])] [(23,true)]) (bA (γ:=Nat) h (fun x_ g_=>aX [(2,V.ref 20 0),(3,V.ref 22 0),(11,vM aJ p.body),(12,vI (p.body.length:Int)),(13,vI x_.2)] [(20,E.cells [V.t T.nilS,V.t T.nilS]),(21,E.tree fD 1 1 (List.map aC x1) []),(22,E.cells [ms 21 1 2 aC x1,ms 23 g_ 9 aJ x_.1]),(23,ar 87 g_ 9 aJ x_.1)] [20,21,22,23]) 1 (lS) ?_)))))
 rintro again5 ⟨x2,x3⟩ g4 h
 refine rq hC [] [14] [(14,vB (decide (x3<(p.body.length:Int))))] [] [] (qs (aT h (fun c1 h=> ?_) (fun c1 h=> ?_)))
 ·refine qk (qs (qb ?_))
  obtain⟨x6,hx6,h⟩:=bd h
  refine rq hC [oR aJ hx6,.z (.nat 24)] [5,15,16] [(5,V.ref 24 0)] [(24,some (E.cells (d4 x6)))] [(24,true)] ?_
  obtain⟨x7,hx7,x8,hx8,h⟩:=cS h
  exact dk hC bD [oV (D9 G hx7),.z (.int 0),oA (aP aJ hx8),oQ (bZ (r:=aJ) 9 gF x2),oQ (bZ (r:=aJ) 9 gF [x7])] (fr 17 7) [] [(23,some (ar 87 (g4+1) 9 aJ x8)),(22,sc [ms 21 1 2 aC x1,ms 23 (g4+1) 9 aJ x8])] [] (rk hC [] [13,24] [(13,vI (wr (x3+1)))] [] [] ⟨(x8,wr (x3+1)),(g4+1),h,lS⟩)
 ·obtain rfl:=so h
  exact cM (rq hC [] [25] [] [(20,sc [ms 21 1 2 aC x1,ms 23 g4 9 aJ x2])] [] (qw (lk hC [.rn 21 0 [] [20,22]] [] [] [(20,sc [ms 0 1 2 aC x1,ms 23 g4 9 aJ x2]),(22,sc [ms 0 1 2 aC x1,ms 23 g4 9 aJ x2]),(21,none),(0,some (E.tree fD 1 1 (List.map aC x1) []))] [(0,true)]) (qw (lk hC [.rn 23 1 [] [20,22]] [] [] [(20,sc [ms 0 1 2 aC x1,ms 1 1 9 aJ x2]),(22,sc [ms 0 1 2 aC x1,ms 1 1 9 aJ x2]),(23,none),(1,some (ar 87 1 9 aJ x2))] [(1,true)]) (qr eW))))
theorem yL{p}{r}(h:dZ n p=some r):VQ G 81 [] [V.agg (bX p)] (V.agg [ms 0 1 2 aH r.arrays,ms 1 1 2 aD r.parts]) [ar 77 1 2 aH r.arrays,E.tree fD 0 1 (List.map aD r.parts) []]:=by
 unfold dZ at h
 refine vq aO Tryz.func81 rfl fun w X β0 hC hg=> ?_
 refine rq hC [.z (.b (true)),.z (.nat 20)] [1,2] [(1,V.tp (bU p)),(2,V.ref 20 0)] [(20,sc [V.t T.nilS,V.t T.nilS])] [(20,true)] (rq hC [.z (.nat 21)] [3] [(3,V.ref 21 0)] [(21,sc [V.t T.nilS,V.t T.nilS])] [(21,true)] (qs (rq hC [oN aH p.arrays] (fr 8 4) [(9,vM aH p.arrays),(10,vI (p.arrays.length:Int)),(11,vI 0)] [] [] (qb (qw (lk hC [.growc 21 0 22 77] [] [] [(22,some (ar 77 1 2 aH [])),(21,sc [ms 22 1 2 aH [],V.t T.nilS])] [(22,true)]) ?_)))))
 refine bA (γ:=Nat) h (fun x_ g_=>aX [(1,V.tp (bU p)),(2,V.ref 20 0),(3,V.ref 21 0),(9,vM aH p.arrays),(10,vI (p.arrays.length:Int)),(11,vI x_.2)] [(20,E.cells [V.t T.nilS,V.t T.nilS]),(21,E.cells [ms 22 g_ 2 aH x_.1,V.t T.nilS]),(22,ar 77 g_ 2 aH x_.1)] [20,21,22]) 1 (lS) ?_
 rintro again4 ⟨x1,x2⟩ g3 h
 refine rq hC [] [12] [(12,vB (decide (x2<(p.arrays.length:Int))))] [] [] (qs (aT h (fun c1 h=> ?_) (fun c1 h=> ?_)))
 ·refine qk (qs (qb ?_))
  obtain⟨x5,hx5,h⟩:=bd h
  refine rq hC [oR aH hx5,.z (.nat 23)] [5,13,14] [(5,V.ref 23 0)] [(23,sc [vS x5.name,vM rI x5.dims])] [(23,true)] ?_
  obtain⟨x6,hx6,x7,hx7,h⟩:=cS h
  exact dk hC bD [oC [] [24] (G.clone x5.dims hx6),.z (.at 5),.z (.fz 24 [21] []),.z (.int 0),oA (aP aH hx7),oQ (bZ (r:=aH) 2 iT x1),oQ (bZ (r:=aH) 2 iT [(⟨x5.name,x6⟩:Arr)])] (fr 15 11) [] [(24,none),(22,some (ar 77 (g3+1) 2 aH x7)),(21,sc [ms 22 (g3+1) 2 aH x7,V.t T.nilS])] [(24,true)] (rk hC [] [11,26] [(11,vI (wr (x2+1)))] [] [] ⟨(x7,wr (x2+1)),(g3+1),h,lS⟩)
 ·refine cM (qs (rq hC [oN aD p.parts] (fr 27 4) [(28,vM aD p.parts),(29,vI (p.parts.length:Int)),(30,vI 0)] [] [] (qb (qw (lk hC [.growc 21 1 23 62,.tre 23 fD 0] [] [] [(23,some (E.tree fD 0 1 (List.map aD []) [])),(21,sc [ms 22 g3 2 aH x1,ms 23 1 2 aD []])] [(23,true)]) (bA (γ:=Nat) h (fun x_ g_=>aX [(2,V.ref 20 0),(3,V.ref 21 0),(28,vM aD p.parts),(29,vI (p.parts.length:Int)),(30,vI x_.2)] [(20,E.cells [V.t T.nilS,V.t T.nilS]),(21,E.cells [ms 22 g3 2 aH x1,ms 23 g_ 2 aD x_.1]),(22,ar 77 g3 2 aH x1),(23,E.tree fD 0 g_ (List.map aD x_.1) [])] [20,21,22,23]) 1 (lS) ?_)))))
  rintro again11 ⟨x8,x9⟩ g10 h
  refine rq hC [] [31] [(31,vB (decide (x9<(p.parts.length:Int))))] [] [] (qs (aT h (fun c2 h=> ?_) (fun c2 h=> ?_)))
  ·refine qk (qs (qb ?_))
   obtain⟨x12,hx12,h⟩:=bd h
   refine rq hC [oR aD hx12,.z (.nat 24)] [7,32,33] [(7,V.ref 24 0)] [(24,some (E.cells (Z5 x12)))] [(24,true)] ?_
   obtain⟨x13,hx13,x14,hx14,h⟩:=cS h
   exact dk hC bD [oC [] [25,26] (U3 G hx13),.z (.lt 27 fD 0),.z (.rows (List.map aD (x8++[(⟨[],[]⟩:Part)]))),oQ (Eq.refl (ndOf fD 0)),oQ (aIc aD (⟨[],[]⟩:Part) hx14),oQ (bZ (r:=aD) 2 fC x8),oQ (bZ (r:=aD) 2 fC [(⟨[],[]⟩:Part)])] (fr 34 7) [] [(25,some (E.tree fD 1 1 (List.map aC x13.nest) [])),(26,some (ar 87 1 9 aJ x13.body)),(27,some (E.tree fD 0 1 (List.map aD [(⟨[],[]⟩:Part)]) [(0,0,ms 25 1 2 aC x13.nest),(0,1,ms 26 1 9 aJ x13.body)])),(23,some (E.tree fD 0 (g10+1) (List.map aD (x8++[(⟨[],[]⟩:Part)])) (nW (List.map aD x8).length [(0,0,ms 25 1 2 aC x13.nest),(0,1,ms 26 1 9 aJ x13.body)]))),(21,sc [ms 22 g3 2 aH x1,ms 23 (g10+1) 2 aD (x8++[(⟨[],[]⟩:Part)])])] [(25,true),(26,true),(27,true)] (qw (zQ hC [.unf 23 25 (aD (⟨[],[]⟩:Part)) (List.map aD (x8++[(⟨x13.nest,[]⟩:Part)])),.tre 26 fD 2,.unf 23 26 (aD (⟨x13.nest,[]⟩:Part)) (List.map aD x14),.lenc 21 1 (List.map aD x14).length] [] [] [(25,none),(26,none),(23,some (E.tree fD 0 (g10+1) (List.map aD x14) [])),(21,sc [ms 22 g3 2 aH x1,ms 23 (g10+1) 2 aD x14])] [] (a9 (Eq.refl (List.map aC x13.nest).length) (Eq.refl fD) (aAs aD x8 (⟨[],[]⟩:Part)) (aGM aD x8 (ph:=(⟨[],[]⟩:Part)) (y:=(⟨x13.nest,[]⟩:Part)) rfl) (Eq.refl (List.map aJ x13.body).length) (Eq.refl fD) (aAs aD x8 (⟨x13.nest,[]⟩:Part)) (aBB aD (ph:=(⟨x13.nest,[]⟩:Part)) hx14 rfl) (aG6 aD (⟨[],[]⟩:Part) hx14)) (by kernel_rfl)) (rk hC [] [30,41] [(30,vI (wr (x9+1)))] [] [] ⟨(x14,wr (x9+1)),(g10+1),h,lS⟩))
  ·obtain rfl:=so h
   exact cM (rq hC [] [42] [] [(20,sc [ms 22 g3 2 aH x1,ms 23 g10 2 aD x8])] [] (qw (lk hC [.rn 22 0 [] [20,21]] [] [] [(20,sc [ms 0 1 2 aH x1,ms 23 g10 2 aD x8]),(21,sc [ms 0 1 2 aH x1,ms 23 g10 2 aD x8]),(22,none),(0,some (ar 77 1 2 aH x1))] [(0,true)]) (qw (lk hC [.rn 23 1 [] [20,21]] [] [] [(20,sc [ms 0 1 2 aH x1,ms 1 1 2 aD x8]),(21,sc [ms 0 1 2 aH x1,ms 1 1 2 aD x8]),(23,none),(1,some (E.tree fD 0 1 (List.map aD x8) []))] [(1,true)]) (qr eW))))
theorem R6{a}{r}(h:mT n a=some r):PQ G 184 [V.agg [vS a.name,vM rI a.dims]] (vI r):=by
 unfold mT at h
 refine pq aO Tryz.func184 rfl fun w X hC=> ?_
 refine rq hC [.z (.b (true))] [1,2] [(1,V.tp [T.str a.name,T.sl (List.map rI a.dims)])] [] [] (rq hC [] [3] [(3,vI 1)] [] [] (qs (rq hC [oN rI a.dims] (fr 6 4) [(7,vM rI a.dims),(8,vI (a.dims.length:Int)),(9,vI 0)] [] [] (qb (jP h (fun x_=>aX [(3,vI x_.1),(7,vM rI a.dims),(8,vI (a.dims.length:Int)),(9,vI x_.2)] [] []) lS ?_)))))
 rintro again3 ⟨x1,x2⟩ h
 refine rq hC [] [10] [(10,vB (decide (x2<(a.dims.length:Int))))] [] [] (qs (aT h (fun c1 h=> ?_) (fun c1 h=> ?_)))
 ·refine qk (qs (qb ?_))
  obtain⟨x4,hx4,h⟩:=bd h
  exact rq hC [oR rI hx4] [5,11,12] [(5,vI x4)] [] [] (rk hC [] [3,13,14,15] [(3,vI (wr (x1*x4)))] [] [] (rk hC [] [9,16] [(9,vI (wr (x2+1)))] [] [] (lE h)))
 ·obtain rfl:=so h
  exact cM (rq hC [] [2,17] [(2,vI x1)] [] [] (qr eR))
theorem gC{a}{point}{r}(h:cI n a point=some r):PQ G 185 [V.agg (aQ a),vM rI point] (vI r):=by
 unfold cI at h
 refine pq aO Tryz.func185 rfl fun w X hC=> ?_
 refine rq hC [.z (.b (true))] [2,4] [(2,V.tp (bJ a))] [] [] (rq hC [] [5,8,9] [(5,vI a.const)] [] [] (qs (rq hC [oN rI point] [10,11,12] [(10,vM rI point),(11,vI (point.length:Int)),(12,vI 0)] [] [] (qb (jP h (fun x_=>aX [(2,V.tp (bJ a)),(5,vI x_.1),(10,vM rI point),(11,vI (point.length:Int)),(12,vI x_.2)] [] []) lS ?_)))))
 rintro again3 ⟨x1,x2⟩ h
 refine rq hC [] [13] [(13,vB (decide (x2<(point.length:Int))))] [] [] (qs (aT h (fun c1 h=> ?_) (fun c1 h=> ?_)))
 ·refine qk (qs (qb ?_))
  obtain⟨x4,hx4,h⟩:=bd h
  refine rq hC [oR rI hx4] [6,7,14,15,16] [(6,vI x2),(7,vI x4)] [] [] ?_
  obtain⟨x5,hx5,h⟩:=bd h
  exact rk hC [oR rI hx5] [5,17,18,19,20,21,22,23,24,25] [(5,vI (wr (x1+(wr (x5*x4)))))] [] [] (rk hC [] [12,26] [(12,vI (wr (x2+1)))] [] [] (lE h))
 ·obtain rfl:=so h
  exact cM (rq hC [] [4,27] [(4,vI x1)] [] [] (qr eR))
theorem bI{n_a0}{low}{high}{r}(h:cB n n_a0 low high=some r):PQ G 62 [vI n_a0,vI low,vI high] (vB r):=by
 unfold cB at h
 refine pq aO Tryz.func62 rfl fun w X hC=> ?_
 refine rq hC [] [6] [] [] [] (vj h (fun x_=>aX [(6,vB x_)] [] []) (fun j1 h=> ?_) (fun x2 h=> ?_))
 ·
  refine aS h (fun c1 h=> ?_) (fun c1 h=> ?_)
  ·exact rk hC (rF 4 c1) (fr 6 9) [(6,vB false)] [] [] (lE h)
  ·exact rk hC (rT 4 c1) (fr 6 9) [(6,vB (decide (n_a0≤high)))] [] [] (lE h)
 ·obtain rfl:=so h
  exact qr eR
theorem fK{p}{a}{point}{r}(h:dJ n p a point=some r):PQ G 142 [V.agg (bX p),V.agg (dH a),vM rI point] (vI r):=by
 unfold dJ at h
 refine pq aO Tryz.func142 rfl fun w X hC=> ?_
 refine rq hC [.z (.b (true)),.z (.b (true))] [3,4,6] [(3,V.tp (bU p)),(4,V.tp (eG a))] [] [] (rq hC [] [7] [(7,vI 0)] [] [] (qs (rq hC [oN aH p.arrays] (fr 14 4) [(15,vM aH p.arrays),(16,vI (p.arrays.length:Int)),(17,vI 0)] [] [] (qb (jP h (fun x_=>aX [(2,vM rI point),(4,V.tp (eG a)),(7,vI x_.1),(15,vM aH p.arrays),(16,vI (p.arrays.length:Int)),(17,vI x_.2)] [] []) lS ?_)))))
 rintro again3 ⟨x1,x2⟩ h
 refine rq hC [] [18] [(18,vB (decide (x2<(p.arrays.length:Int))))] [] [] (qs (aT h (fun c1 h=> ?_) (fun c1 h=> ?_)))
 ·refine qk (qs (qb ?_))
  obtain⟨x4,hx4,h⟩:=bd h
  refine rq hC [oR aH hx4,.z (.nat 20)] [9,19,20] [(9,V.ref 20 0)] [(20,sc [vS x4.name,vM rI x4.dims])] [(20,true)] (qs (rq hC [] (fr 21 5) [(25,vB (!decide (x4.name=a.array)))] [] [] (aT h (fun c2 h=> ?_) (fun c2 h=> ?_))))
  ·obtain⟨x5,hx5,h⟩:=bd h
   exact rq hC [oV (R6 G hx5)] [7,26,27,28,29] [(7,vI (wr (x1+x5)))] [] [] (cM (rk hC [] [17,70] [(17,vI (wr (x2+1)))] [] [] (lE h)))
  ·refine qk (qs (rq hC [oN aB a.subs,oN rI x4.dims] (fr 30 7) [(36,vB (!decide ((a.subs.length:Int)=(x4.dims.length:Int))))] [] [] (aT h (fun c3 h=> ?_) (fun c3 h=> ?_))))
   ·obtain rfl:=so h
    exact rq hC [] [6] [(6,vI (-1))] [] [] (qr eR)
   ·refine qk (rq hC [] [10] [(10,vI 0)] [] [] (qs (rq hC [oN aB a.subs] (fr 37 4) [(38,vM aB a.subs),(39,vI (a.subs.length:Int)),(40,vI 0)] [] [] (qb (jP h (fun x_=>aX [(2,vM rI point),(7,vI x1),(9,V.ref 20 0),(10,vI x_.1),(38,vM aB a.subs),(39,vI (a.subs.length:Int)),(40,vI x_.2)] [(20,E.cells [vS x4.name,vM rI x4.dims])] [20]) lS ?_)))))
    rintro again8 ⟨x6,x7⟩ h
    refine rq hC [] [41] [(41,vB (decide (x7<(a.subs.length:Int))))] [] [] (qs (aT h (fun c4 h=> ?_) (fun c4 h=> ?_)))
    ·refine qk (qs (qb ?_))
     obtain⟨x9,hx9,h⟩:=bd h
     refine rq hC [oR aB hx9,.z (.nat 21)] [11,12,42,43,44] [(11,vI x7),(12,V.ref 21 0)] [(21,some (E.cells (aQ x9)))] [(21,true)] ?_
     obtain⟨x10,hx10,h⟩:=bd h
     refine rq hC [oV (gC G hx10)] [13,45,46,47] [(13,vI x10)] [] [] (qs ?_)
     obtain⟨x11,hx11,x12,hx12,h⟩:=cS h
     refine rq hC [oR rI hx11,oV (bI G hx12)] (fr 48 9) [(56,vB (!x12))] [] [] (aT h (fun c5 h=> ?_) (fun c5 h=> ?_))
     ·obtain rfl:=so h
      exact rq hC [] [6] [(6,vI (-1))] [] [] (qr eR)
     ·exact qk (rk hC [oR rI hx11] [10,57,58,59,60,61,62,63,64,65] [(10,vI (wr ((wr (x6*x11))+x10)))] [] [] (rk hC [] [40,66] [(40,vI (wr (x7+1)))] [] [] (lE h)))
    ·obtain rfl:=so h
     exact cM (rq hC [] [6,67,68,69] [(6,vI (wr (x1+x6)))] [] [] (qr eR))
 ·obtain rfl:=so h
  exact cM (rq hC [] [6] [(6,vI (-1))] [] [] (qr eR))
theorem tW(G:GS)(n:Nat)(a:Access)(c0__a1:Prog)(c1__a2:List Int){r:Bool}(h:dD n a c0__a1 c1__a2=some r):PQ G 172 [V.agg (dH a),V.tp (bU c0__a1),V.tp [T.sl (List.map rI c1__a2)]] (vB r):=by
 unfold dD at h
 refine pq aO Tryz.func172 rfl fun w X hC=> ?_
 refine rq hC [.z (.b (true))] [3,4] [(3,V.tp (eG a))] [] [] ?_
 obtain⟨x1,hx1,h⟩:=bd h
 obtain rfl:=so h
 exact rq hC [oV (fK G hx1)] (fr 4 6) [(4,vB (decide (x1<0)))] [] [] (qr eR)
theorem Z4(G:GS): ∀(n:Nat) (e:Expr) {r:(List Access)} (h:i_reads n e=some r),VQ G 141 [] [V.agg (fM e)] (ms 0 1 2 aU r) [ar 82 1 2 aU r]:=by
 intro n
 induction n with
 |zero=>intro e r h;rw [i_reads.eq_def] at h;cases h
 |succ n ih=>
  intro e r h
  rw [i_reads.eq_def] at h;dsimp only at h
  refine vq aO Tryz.func141 rfl fun w X β0 hC hg=> ?_
  refine rq hC [.z (.b (true))] [1,2] [(1,V.tp (iK e))] [] [] (qs (rq hC [] [6,7,8] [(8,vB (decide (e.kind=3)))] [] [] (aT h (fun c1 h=> ?_) (fun c1 h=> ?_))))
  ·obtain rfl:=so h
   exact rq hC [.z (.int 1),.z (.nat 20)] [2,9,10,11] [(2,ms 20 1 2 aU [e.read])] [(20,some (ar 82 1 2 aU [e.read]))] [(20,true)] (qw (lk hC [.ren 2 20 0] [2] [(2,ms 0 1 2 aU [e.read])] [(0,some (ar 82 1 2 aU [e.read])),(20,none)] [(0,true)]) (qr eW))
  ·refine qk (rq hC [] [3] [(3,V.t T.nilS)] [] [] (qs (rq hC [oN aM e.kids] (fr 12 4) [(13,vM aM e.kids),(14,vI (e.kids.length:Int)),(15,vI 0)] [] [] (qb (qw (lk hC [.grow 3 20 82] [3] [(3,ms 20 1 2 aU [])] [(20,some (ar 82 1 2 aU []))] [(20,true)]) ?_)))))
   refine bA (γ:=Nat) h (fun x_ g_=>aX [(3,ms 20 g_ 2 aU x_.1),(13,vM aM e.kids),(14,vI (e.kids.length:Int)),(15,vI x_.2)] [(20,ar 82 g_ 2 aU x_.1)] [20]) 1 (lS) ?_
   rintro again4 ⟨x1,x2⟩ g3 h
   refine rq hC [] [16] [(16,vB (decide (x2<(e.kids.length:Int))))] [] [] (qs (aT h (fun c2 h=> ?_) (fun c2 h=> ?_)))
   ·refine qk (qs (qb ?_))
    obtain⟨x5,hx5,h⟩:=bd h
    refine rq hC [.z (.row (fU x5)),.z (.nat 21),oQ (jG aM hx5 (eA x5))] [5,17,18] [(5,V.ref 21 0)] [(21,some (E.cells (fM x5)))] [(21,true)] ?_
    obtain⟨x6,hx6,x7,hx7,h⟩:=cS h
    exact rk hC [oC [] [22] (ih x5 hx6),.z (.at 2),.z (.fz 22 [21] []),oA (aP aU hx7),oQ (bZ (r:=aU) 2 oE x1),oQ (bZ (r:=aU) 2 oE x6)] [3,19,20,21,22] [(3,ms 20 (g3+1) 2 aU x7)] [(22,none),(20,some (ar 82 (g3+1) 2 aU x7))] [(22,true)] (rk hC [] [15,23] [(15,vI (wr (x2+1)))] [] [] ⟨(x7,wr (x2+1)),(g3+1),h,lS⟩)
   ·obtain rfl:=so h
    exact cM (rq hC [] [2,24] [(2,ms 20 g3 2 aU x1)] [] [] (qw (lk hC [.ren 2 20 0] [2] [(2,ms 0 1 2 aU x1)] [(0,some (ar 82 1 2 aU x1)),(20,none)] [(0,true)]) (qr eW)))
theorem qD(G:GS)(n:Nat)(s:List Access)(fF:FuncId)(fC0:List T)(fC1:List T)(f:Access→Option Bool)(hf: ∀(q0:Access) r,f q0=some r→PQ G fF [V.agg (dH q0),V.tp fC0,V.tp fC1] (vB r)){r:Int}(h:fX n s f=some r):PQ G 227 [vM aU s,V.fn fF [V.tp fC0,V.tp fC1]] (vI r):=by
 unfold fX at h
 refine pq aO Tryz.func227 rfl fun w X hC=> ?_
 refine rq hC [] [4] [] [] [] (qs (rq hC [oN aU s] [6,7,8] [(7,vI (s.length:Int)),(8,vI 0)] [] [] (qb (jP h (fun x_=>aX [(0,vM aU s),(1,V.fn fF [V.tp fC0,V.tp fC1]),(7,vI (s.length:Int)),(8,vI x_)] [] []) lS ?_))))
 rintro again2 x1 h
 refine rq hC [] [9] [(9,vB (decide (x1<(s.length:Int))))] [] [] (qs (aT h (fun c1 h=> ?_) (fun c1 h=> ?_)))
 ·refine qk (qs (qb (rq hC [] [5,10] [(5,vI x1)] [] [] ?_)))
  obtain⟨x3,hx3,x4,hx4,h⟩:=cS h
  refine rq hC [oR aU hx3,oV (hf x3 _ hx4)] (fr 11 6) [(16,vB x4)] [] [] (aT h (fun c2 h=> ?_) (fun c2 h=> ?_))
  ·obtain rfl:=so h
   exact rq hC [] [4,17] [(4,vI x1)] [] [] (qr eR)
  ·exact qk (rk hC [] [8,18] [(8,vI (wr (x1+1)))] [] [] (lE h))
 ·obtain rfl:=so h
  exact cM (rq hC [] [4] [(4,vI (-1))] [] [] (qr eR))
theorem n9(G:GS)(n:Nat)(s:List Access)(fF:FuncId)(fC0:List T)(fC1:List T)(f:Access→Option Bool)(hf: ∀(q0:Access) r,f q0=some r→PQ G fF [V.agg (dH q0),V.tp fC0,V.tp fC1] (vB r)){r:Bool}(h:cZ n s f=some r):PQ G 171 [vM aU s,V.fn fF [V.tp fC0,V.tp fC1]] (vB r):=by
 unfold cZ at h
 refine pq aO Tryz.func171 rfl fun w X hC=> ?_
 refine rq hC [] [4] [] [] [] ?_
 obtain⟨x1,hx1,h⟩:=bd h
 obtain rfl:=so h
 exact rq hC [oV (qD G n s fF fC0 fC1 f hf hx1)] (fr 4 5) [(4,vB (decide ((0:Int)≤x1)))] [] [] (qr eR)
theorem wL{p}{s}{point}{r}(h:fI n p s point=some r):PQ G 128 [V.agg (bX p),V.agg (d4 s),vM rI point] (vB r):=by
 unfold fI at h
 refine pq aO Tryz.func128 rfl fun w X hC=> ?_
 refine rq hC [.z (.b (true)),.z (.b (true)),.z (.b (true))] (fr 3 4) [(3,V.tp (bU p)),(4,V.tp (pB s)),(5,V.tp [T.sl (List.map rI point)])] [] [] (vj h (fun x_=>aX [(6,vB x_)] [] []) (fun j1 h=> ?_) (fun x5 h=> ?_))
 ·
  obtain⟨x2,hx2,h⟩:=bd h
  refine aS h (fun c1 h=> ?_) (fun c1 h=> ?_)
  ·exact rk hC ([oV (fK G hx2)]++rF 7 c1) (fr 6 15) [(6,vB false)] [] [] (lE h)
  ·obtain⟨x3,hx3,x4,hx4,h⟩:=cS h
   exact rk hC ([oV (fK G hx2)]++rT 3 c1++[oC [] [20] (Z4 G n s.value hx3),oT c1,oT c1,.z (.b (true)),oV (n9 G n x3 172 (bU p) [T.sl (List.map rI point)] (fun q0=>dD n q0 p point) (fun q0 r h=>tW G n q0 p point h) hx4),oT c1,oT c1]) (fr 6 15) [(6,vB (!x4))] [(20,some (ar 82 1 2 aU x3))] [(20,true)] (lE h)
 ·obtain rfl:=so h
  exact qr eR
theorem eU{s}{r}(h:nF n s=some r):PQ G 162 [vS s] (vB r):=by
 unfold nF at h
 refine pq aO Tryz.func162 rfl fun w X hC=> ?_
 refine rq hC [] [2] [] [] [] (vj h (fun x_=>aX [(2,vB x_)] [] []) (fun j1 h=> ?_) (fun x3 h=> ?_))
 ·
  refine aS h (fun c1 h=> ?_) (fun c1 h=> ?_)
  ·exact rk hC (rF 3 c1) (fr 2 8) [(2,vB false)] [] [] (lE h)
  ·obtain⟨x2,hx2,h⟩:=bd h
   exact rk hC [oT c1,oT c1,oV (G.contains [65,66,67,68] s x2 hx2),oT c1] (fr 2 8) [(2,vB x2)] [] [] (lE h)
 ·obtain rfl:=so h
  exact qr eR
theorem oO(G:GS)(n:Nat)(s:List Int)(fF:FuncId)(f:Int→Option Bool)(hf: ∀(q0:Int) r,f q0=some r→PQ G fF [vI q0] (vB r)){r:Int}(h:eJ n s f=some r):PQ G 143 [vM rI s,V.fn fF []] (vI r):=by
 unfold eJ at h
 refine pq aO Tryz.func143 rfl fun w X hC=> ?_
 refine rq hC [] [4] [] [] [] (qs (rq hC [oN rI s] [6,7,8] [(7,vI (s.length:Int)),(8,vI 0)] [] [] (qb (jP h (fun x_=>aX [(0,vM rI s),(1,V.fn fF []),(7,vI (s.length:Int)),(8,vI x_)] [] []) lS ?_))))
 rintro again2 x1 h
 refine rq hC [] [9] [(9,vB (decide (x1<(s.length:Int))))] [] [] (qs (aT h (fun c1 h=> ?_) (fun c1 h=> ?_)))
 ·refine qk (qs (qb (rq hC [] [5,10] [(5,vI x1)] [] [] ?_)))
  obtain⟨x3,hx3,x4,hx4,h⟩:=cS h
  refine rq hC [oR rI hx3,oV (hf x3 _ hx4)] (fr 11 6) [(16,vB x4)] [] [] (aT h (fun c2 h=> ?_) (fun c2 h=> ?_))
  ·obtain rfl:=so h
   exact rq hC [] [4,17] [(4,vI x1)] [] [] (qr eR)
  ·exact qk (rk hC [] [8,18] [(8,vI (wr (x1+1)))] [] [] (lE h))
 ·obtain rfl:=so h
  exact cM (rq hC [] [4] [(4,vI (-1))] [] [] (qr eR))
theorem eS(G:GS)(n:Nat)(s:List Int)(fF:FuncId)(f:Int→Option Bool)(hf: ∀(q0:Int) r,f q0=some r→PQ G fF [vI q0] (vB r)){r:Bool}(h:bP n s f=some r):PQ G 163 [vM rI s,V.fn fF []] (vB r):=by
 unfold bP at h
 refine pq aO Tryz.func163 rfl fun w X hC=> ?_
 refine rq hC [] [4] [] [] [] ?_
 obtain⟨x1,hx1,h⟩:=bd h
 obtain rfl:=so h
 exact rq hC [oV (oO G n s fF f hf hx1)] (fr 4 5) [(4,vB (decide ((0:Int)≤x1)))] [] [] (qr eR)
theorem tV(G:GS)(n:Nat)(n_a0:Int){r:Bool}(h:dX n n_a0=some r):PQ G 164 [vI n_a0] (vB r):=by
 unfold dX at h
 refine pq aO Tryz.func164 rfl fun w X hC=> ?_
 refine rq hC [] [2] [] [] [] ?_
 obtain⟨x1,hx1,h⟩:=bd h
 obtain rfl:=so h
 exact rq hC [oV (bI G hx1)] (fr 2 4) [(2,vB (!x1))] [] [] (qr eR)
theorem yK{list}{r}(h:nV n list=some r):PQ G 122 [vM aH list] (vB r):=by
 unfold nV at h
 refine pq aO Tryz.func122 rfl fun w X hC=> ?_
 refine rq hC [] [2] [] [] [] (qs (rq hC [oN aH list] [5,6,7] [(5,vM aH list),(6,vI (list.length:Int)),(7,vI 0)] [] [] (qb (jP h (fun x_=>aX [(0,vM aH list),(5,vM aH list),(6,vI (list.length:Int)),(7,vI x_)] [] []) lS ?_))))
 rintro again2 x1 h
 refine rq hC [] [8] [(8,vB (decide (x1<(list.length:Int))))] [] [] (qs (aT h (fun c1 h=> ?_) (fun c1 h=> ?_)))
 ·refine qk (qs (qb ?_))
  obtain⟨x3,hx3,h⟩:=bd h
  refine rq hC [oR aH hx3,.z (.nat 20)] [3,4,9,10,11] [(3,vI x1),(4,V.ref 20 0)] [(20,sc [vS x3.name,vM rI x3.dims])] [(20,true)] (vj h (fun x_=>aX [(0,vM aH list),(5,vM aH list),(6,vI (list.length:Int)),(7,vI x1),(42,vB x_)] [(20,E.cells [vS x3.name,vM rI x3.dims])] [20]) (fun j4 h=> ?_) (fun x11 h=> ?_))
  ·
   obtain⟨x5,hx5,h⟩:=bd h
   refine aS h (fun c2 h=> ?_) (fun c2 h=> ?_)
   ·refine aS h (fun c3 h=> ?_) (fun c3 h=> ?_)
    ·obtain⟨x6,hx6,h⟩:=bd h
     refine aS h (fun c4 h=> ?_) (fun c4 h=> ?_)
     ·obtain⟨x7,hx7,h⟩:=bd h
      exact dk hC bD ([oV (eU G hx5)]++rF 3 c2++rF 9 c3++[oF c2,oF c3,oF c2,eF,eF,eF,oN rI x3.dims,eF,oV (bI G hx6),eF,eF]++rF 3 c4++[oV (eS G n x3.dims 164 (fun q0=>dX n q0) (fun q0 r h=>tV G n q0 h) hx7),oF c4]) (fr 12 31) [(42,vB x7)] [] [] (lE h)
     ·exact dk hC bD ([oV (eU G hx5)]++rF 3 c2++rF 9 c3++[oF c2,oF c3,oF c2,eF,eF,eF,oN rI x3.dims,eF,oV (bI G hx6),eF,eF]++rT 4 c4) (fr 12 31) [(42,vB true)] [] [] (lE h)
    ·obtain⟨x8,hx8,h⟩:=bd h
     refine aS h (fun c5 h=> ?_) (fun c5 h=> ?_)
     ·obtain⟨x9,hx9,h⟩:=bd h
      refine aS h (fun c6 h=> ?_) (fun c6 h=> ?_)
      ·obtain⟨x10,hx10,h⟩:=bd h
       exact dk hC bD ([oV (eU G hx5)]++rF 3 c2++rT 4 c3++[oR aH hx8]++rT 5 c3++[oF c2,oT c3,oF c2]++rF 3 c5++[oN rI x3.dims,oF c5,oV (bI G hx9),oF c5,oF c5]++rF 3 c6++[oV (eS G n x3.dims 164 (fun q0=>dX n q0) (fun q0 r h=>tV G n q0 h) hx10),oF c6]) (fr 12 31) [(42,vB x10)] [] [] (lE h)
      ·exact dk hC bD ([oV (eU G hx5)]++rF 3 c2++rT 4 c3++[oR aH hx8]++rT 5 c3++[oF c2,oT c3,oF c2]++rF 3 c5++[oN rI x3.dims,oF c5,oV (bI G hx9),oF c5,oF c5]++rT 4 c6) (fr 12 31) [(42,vB true)] [] [] (lE h)
     ·exact dk hC bD ([oV (eU G hx5)]++rF 3 c2++rT 4 c3++[oR aH hx8]++rT 5 c3++[oF c2,oT c3,oF c2]++rT 6 c5++sT 4) (fr 12 31) [(42,vB true)] [] [] (lE h)
   ·exact dk hC bD ([oV (eU G hx5)]++rT 5 c2++sT 10) (fr 12 31) [(42,vB true)] [] [] (lE h)
  ·refine aT h (fun c7 h=> ?_) (fun c7 h=> ?_)
   ·obtain rfl:=so h
    exact rq hC [] [2] [(2,vB false)] [] [] (qr eR)
   ·exact qk (rk hC [] [7,43] [(7,vI (wr (x1+1)))] [] [] (lE h))
 ·obtain rfl:=so h
  exact cM (rq hC [oN aH list] [2,44,45,46] [(2,vB (decide ((list.length:Int)≤4)))] [] [] (qr eR))
theorem tS(G:GS)(n:Nat)(s:List Affine)(fF:FuncId)(f:Affine→Option Bool)(hf: ∀(q0:Affine) r,f q0=some r→PQ G fF [V.agg (aQ q0)] (vB r)){r:Int}(h:dC n s f=some r):PQ G 201 [vM aB s,V.fn fF []] (vI r):=by
 unfold dC at h
 refine pq aO Tryz.func201 rfl fun w X hC=> ?_
 refine rq hC [] [4] [] [] [] (qs (rq hC [oN aB s] [6,7,8] [(7,vI (s.length:Int)),(8,vI 0)] [] [] (qb (jP h (fun x_=>aX [(0,vM aB s),(1,V.fn fF []),(7,vI (s.length:Int)),(8,vI x_)] [] []) lS ?_))))
 rintro again2 x1 h
 refine rq hC [] [9] [(9,vB (decide (x1<(s.length:Int))))] [] [] (qs (aT h (fun c1 h=> ?_) (fun c1 h=> ?_)))
 ·refine qk (qs (qb (rq hC [] [5,10] [(5,vI x1)] [] [] ?_)))
  obtain⟨x3,hx3,x4,hx4,h⟩:=cS h
  refine rq hC [oR aB hx3,oV (hf x3 _ hx4)] (fr 11 6) [(16,vB x4)] [] [] (aT h (fun c2 h=> ?_) (fun c2 h=> ?_))
  ·obtain rfl:=so h
   exact rq hC [] [4,17] [(4,vI x1)] [] [] (qr eR)
  ·exact qk (rk hC [] [8,18] [(8,vI (wr (x1+1)))] [] [] (lE h))
 ·obtain rfl:=so h
  exact cM (rq hC [] [4] [(4,vI (-1))] [] [] (qr eR))
theorem qF(G:GS)(n:Nat)(s:List Affine)(fF:FuncId)(f:Affine→Option Bool)(hf: ∀(q0:Affine) r,f q0=some r→PQ G fF [V.agg (aQ q0)] (vB r)){r:Bool}(h:bL n s f=some r):PQ G 150 [vM aB s,V.fn fF []] (vB r):=by
 unfold bL at h
 refine pq aO Tryz.func150 rfl fun w X hC=> ?_
 refine rq hC [] [4] [] [] [] ?_
 obtain⟨x1,hx1,h⟩:=bd h
 obtain rfl:=so h
 exact rq hC [oV (tS G n s fF f hf hx1)] (fr 4 5) [(4,vB (decide ((0:Int)≤x1)))] [] [] (qr eR)
theorem fL{a}{r}(h:dK n a=some r):PQ G 152 [V.agg (aQ a)] (vI r):=by
 unfold dK at h
 refine pq aO Tryz.func152 rfl fun w X hC=> ?_
 refine rq hC [.z (.b (true))] [1,2] [(1,V.tp (bJ a))] [] [] (rq hC [oN rI a.coefs] (fr 3 4) [(3,vI (a.coefs.length:Int))] [] [] (qs (qb (jP h (fun x_=>aX [(1,V.tp (bJ a)),(3,vI x_)] [] []) lS ?_))))
 rintro again2 x1 h
 refine qs (vj h (fun x_=>aX [(1,V.tp (bJ a)),(3,vI x1),(17,vB x_)] [] []) (fun j3 h=> ?_) (fun x5 h=> ?_))
 ·
  refine aS h (fun c1 h=> ?_) (fun c1 h=> ?_)
  ·exact rk hC (rF 8 c1) (fr 7 11) [(17,vB false)] [] [] (lE h)
  ·obtain⟨x4,hx4,h⟩:=bd h
   exact rk hC (rT 5 c1++[oR rI hx4]++rT 3 c1) (fr 7 11) [(17,vB (decide (x4=0)))] [] [] (lE h)
 ·refine aT h (fun c2 h=> ?_) (fun c2 h=> ?_)
  ·exact qk (qb (rk hC [] [3,18,19] [(3,vI (wr (x1-1)))] [] [] (lE h)))
  ·obtain rfl:=so h
   exact cM (rq hC [] [2,20] [(2,vI x1)] [] [] (qr eR))
theorem E0{n_a0}{r}(h:uL n n_a0=some r):PQ G 261 [vI n_a0] (vB r):=by
 unfold uL at h
 refine pq aO Tryz.func261 rfl fun w X hC=> ?_
 refine rq hC [] [2] [] [] [] ?_
 obtain⟨x1,hx1,h⟩:=bd h
 obtain rfl:=so h
 exact rq hC [oV (bI G hx1)] [2,3,4] [(2,vB x1)] [] [] (qr eR)
theorem yM(G:GS)(n:Nat)(c:Int){r:Bool}(h:eK n c=some r):PQ G 262 [vI c] (vB r):=by
 unfold eK at h
 refine pq aO Tryz.func262 rfl fun w X hC=> ?_
 refine rq hC [] [2] [] [] [] ?_
 obtain⟨x1,hx1,h⟩:=bd h
 obtain rfl:=so h
 exact rq hC [oV (bI G hx1)] (fr 2 4) [(2,vB (!x1))] [] [] (qr eR)
theorem dS{a}{r}(h:e9 n a=some r):PQ G 223 [V.agg (aQ a)] (vB r):=by
 unfold e9 at h
 refine pq aO Tryz.func223 rfl fun w X hC=> ?_
 refine rq hC [.z (.b (true))] [1,2] [(1,V.tp (bJ a))] [] [] (vj h (fun x_=>aX [(2,vB x_)] [] []) (fun j1 h=> ?_) (fun x4 h=> ?_))
 ·
  refine aS h (fun c1 h=> ?_) (fun c1 h=> ?_)
  ·exact rk hC ([oN rI a.coefs]++rF 4 c1++sF 5) (fr 2 16) [(2,vB false)] [] [] (lE h)
  ·obtain⟨x2,hx2,h⟩:=bd h
   refine aS h (fun c2 h=> ?_) (fun c2 h=> ?_)
   ·exact rk hC ([oN rI a.coefs]++rT 3 c1++[oV (E0 G hx2),oT c1]++rF 5 c2) (fr 2 16) [(2,vB false)] [] [] (lE h)
   ·obtain⟨x3,hx3,h⟩:=bd h
    exact rk hC ([oN rI a.coefs]++rT 3 c1++[oV (E0 G hx2),oT c1]++rT 3 c2++[oV (eS G n a.coefs 262 (fun q0=>eK n q0) (fun q0 r h=>yM G n q0 h) hx3),oT c2,oT c2]) (fr 2 16) [(2,vB (!x3))] [] [] (lE h)
 ·obtain rfl:=so h
  exact qr eR
theorem R1(G:GS)(n:Nat)(a:Affine)(c0__a1:Int){r:Bool}(h:fY n a c0__a1=some r):PQ G 260 [V.agg (aQ a),V.tp [T.int .i64 c0__a1]] (vB r):=by
 unfold fY at h
 refine pq aO Tryz.func260 rfl fun w X hC=> ?_
 refine rq hC [.z (.b (true))] [2,3] [(2,V.tp (bJ a))] [] [] (vj h (fun x_=>aX [(3,vB x_)] [] []) (fun j1 h=> ?_) (fun x4 h=> ?_))
 ·
  obtain⟨x2,hx2,h⟩:=bd h
  refine aS h (fun c1 h=> ?_) (fun c1 h=> ?_)
  ·obtain⟨x3,hx3,h⟩:=bd h
   exact dk hC bD ([oV (dS G hx2),oF c1,oF c1,oV (fL G hx3)]++rF 3 c1) (fr 3 10) [(3,vB (decide (c0__a1<x3)))] [] [] (lE h)
  ·exact dk hC bD ([oV (dS G hx2)]++rT 5 c1) (fr 3 10) [(3,vB true)] [] [] (lE h)
 ·obtain rfl:=so h
  exact qr eR
theorem qC(G:GS)(n:Nat)(s:List Affine)(fF:FuncId)(fC0:List T)(f:Affine→Option Bool)(hf: ∀(q0:Affine) r,f q0=some r→PQ G fF [V.agg (aQ q0),V.tp fC0] (vB r)){r:Int}(h:dC n s f=some r):PQ G 201 [vM aB s,V.fn fF [V.tp fC0]] (vI r):=by
 unfold dC at h
 refine pq aO Tryz.func201 rfl fun w X hC=> ?_
 refine rq hC [] [4] [] [] [] (qs (rq hC [oN aB s] [6,7,8] [(7,vI (s.length:Int)),(8,vI 0)] [] [] (qb (jP h (fun x_=>aX [(0,vM aB s),(1,V.fn fF [V.tp fC0]),(7,vI (s.length:Int)),(8,vI x_)] [] []) lS ?_))))
 rintro again2 x1 h
 refine rq hC [] [9] [(9,vB (decide (x1<(s.length:Int))))] [] [] (qs (aT h (fun c1 h=> ?_) (fun c1 h=> ?_)))
 ·refine qk (qs (qb (rq hC [] [5,10] [(5,vI x1)] [] [] ?_)))
  obtain⟨x3,hx3,x4,hx4,h⟩:=cS h
  refine rq hC [oR aB hx3,oV (hf x3 _ hx4)] (fr 11 6) [(16,vB x4)] [] [] (aT h (fun c2 h=> ?_) (fun c2 h=> ?_))
  ·obtain rfl:=so h
   exact rq hC [] [4,17] [(4,vI x1)] [] [] (qr eR)
  ·exact qk (rk hC [] [8,18] [(8,vI (wr (x1+1)))] [] [] (lE h))
 ·obtain rfl:=so h
  exact cM (rq hC [] [4] [(4,vI (-1))] [] [] (qr eR))
theorem iD(G:GS)(n:Nat)(s:List Affine)(fF:FuncId)(fC0:List T)(f:Affine→Option Bool)(hf: ∀(q0:Affine) r,f q0=some r→PQ G fF [V.agg (aQ q0),V.tp fC0] (vB r)){r:Bool}(h:bL n s f=some r):PQ G 150 [vM aB s,V.fn fF [V.tp fC0]] (vB r):=by
 unfold bL at h
 refine pq aO Tryz.func150 rfl fun w X hC=> ?_
 refine rq hC [] [4] [] [] [] ?_
 obtain⟨x1,hx1,h⟩:=bd h
 obtain rfl:=so h
 exact rq hC [oV (qC G n s fF fC0 f hf hx1)] (fr 4 5) [(4,vB (decide ((0:Int)≤x1)))] [] [] (qr eR)
theorem rM{list}{depth}{r}(h:lM n list depth=some r):PQ G 220 [vM aB list,vI depth] (vB r):=by
 unfold lM at h
 refine pq aO Tryz.func220 rfl fun w X hC=> ?_
 refine rq hC [.z (.b (true))] [3,4] [(3,V.tp [T.int .i64 depth])] [] [] (vj h (fun x_=>aX [(4,vB x_)] [] []) (fun j1 h=> ?_) (fun x4 h=> ?_))
 ·
  obtain⟨x2,hx2,h⟩:=bd h
  refine aS h (fun c1 h=> ?_) (fun c1 h=> ?_)
  ·exact rk hC ([oN aB list,oV (bI G hx2)]++rF 5 c1) (fr 4 10) [(4,vB false)] [] [] (lE h)
  ·obtain⟨x3,hx3,h⟩:=bd h
   exact rk hC ([oN aB list,oV (bI G hx2)]++rT 3 c1++[oV (iD G n list 260 [T.int .i64 depth] (fun q0=>fY n q0 depth) (fun q0 r h=>R1 G n q0 depth h) hx3),oT c1,oT c1]) (fr 4 10) [(4,vB (!x3))] [] [] (lE h)
 ·obtain rfl:=so h
  exact qr eR
theorem U9{nest}{r}(h:mA n nest=some r):PQ G 165 [vM aC nest] (vB r):=by
 unfold mA at h
 refine pq aO Tryz.func165 rfl fun w X hC=> ?_
 refine rq hC [] [2] [] [] [] (qs (rq hC [oN aC nest] [5,6,7] [(5,vM aC nest),(6,vI (nest.length:Int)),(7,vI 0)] [] [] (qb (jP h (fun x_=>aX [(0,vM aC nest),(5,vM aC nest),(6,vI (nest.length:Int)),(7,vI x_)] [] []) lS ?_))))
 rintro again2 x1 h
 refine rq hC [] [8] [(8,vB (decide (x1<(nest.length:Int))))] [] [] (qs (aT h (fun c1 h=> ?_) (fun c1 h=> ?_)))
 ·refine qk (qs (qb ?_))
  obtain⟨x3,hx3,h⟩:=bd h
  refine rq hC [oR aC hx3,.z (.nat 20)] [3,4,9,10,11] [(3,vI x1),(4,V.ref 20 0)] [(20,some (E.cells (yN x3)))] [(20,true)] (vj h (fun x_=>aX [(0,vM aC nest),(5,vM aC nest),(6,vI (nest.length:Int)),(7,vI x1),(23,vB x_)] [(20,E.cells (yN x3))] [20]) (fun j4 h=> ?_) (fun x7 h=> ?_))
  ·
   obtain⟨x5,hx5,h⟩:=bd h
   refine aS h (fun c2 h=> ?_) (fun c2 h=> ?_)
   ·obtain⟨x6,hx6,h⟩:=bd h
    exact rk hC ([oV (rM G hx5)]++rF 4 c2++[oV (rM G hx6),oF c2,oF c2]) (fr 12 12) [(23,vB (!x6))] [] [] (lE h)
   ·exact rk hC ([oV (rM G hx5)]++rT 6 c2) (fr 12 12) [(23,vB true)] [] [] (lE h)
  ·refine aT h (fun c3 h=> ?_) (fun c3 h=> ?_)
   ·obtain rfl:=so h
    exact rq hC [] [2] [(2,vB false)] [] [] (qr eR)
   ·exact qk (rk hC [] [7,24] [(7,vI (wr (x1+1)))] [] [] (lE h))
 ·obtain rfl:=so h
  exact cM (rq hC [oN aC nest] [2,25,26,27] [(2,vB (decide ((nest.length:Int)≤4)))] [] [] (qr eR))
theorem V2{l}{point}{r}(h:mB n l point=some r):PQ G 221 [V.agg (yN l),vM rI point] (V.tup [vI r.1,vI r.2]):=by
 unfold mB at h
 refine pq aO Tryz.func221 rfl fun w X hC=> ?_
 refine rq hC [.z (.b (true))] [2,4,5] [(2,V.tp (wS l))] [] [] (qs ?_)
 obtain⟨x1,hx1,x2,hx2,x3,hx3,h⟩:=kY h
 obtain⟨x4,hx4,h⟩:=bd h
 refine dk hC bD [oR aB hx1,oV (gC G hx2),oR aB hx3,oV (gC G hx4)] [6,7,12,13,14,15,16,17,18,19,20,21,22,23] [(6,vI x2),(7,vI x4)] [] [] (qs (rq hC [oN aB l.lo] (fr 24 4) [(25,vM aB l.lo),(26,vI (l.lo.length:Int)),(27,vI 0)] [] [] (qb (jP h (fun x_=>aX [(1,vM rI point),(2,V.tp (wS l)),(6,vI x_.1),(7,vI x4),(25,vM aB l.lo),(26,vI (l.lo.length:Int)),(27,vI x_.2)] [] []) lS ?_))))
 rintro again7 ⟨x5,x6⟩ h
 refine rq hC [] [28] [(28,vB (decide (x6<(l.lo.length:Int))))] [] [] (qs (aT h (fun c1 h=> ?_) (fun c1 h=> ?_)))
 ·refine qk (qs (qb ?_))
  obtain⟨x8,hx8,h⟩:=bd h
  refine rq hC [oR aB hx8,.z (.nat 20)] [9,29,30] [(9,V.ref 20 0)] [(20,some (E.cells (aQ x8)))] [(20,true)] ?_
  obtain⟨x9,hx9,h⟩:=bd h
  exact rk hC [oV (gC G hx9)] [6,31,32,33,34,35] [(6,vI (max x5 x9))] [] [] (rk hC [] [27,36] [(27,vI (wr (x6+1)))] [] [] (lE h))
 ·refine cM (qs (rq hC [oN aB l.hi] (fr 37 4) [(38,vM aB l.hi),(39,vI (l.hi.length:Int)),(40,vI 0)] [] [] (qb (jP h (fun x_=>aX [(1,vM rI point),(6,vI x5),(7,vI x_.1),(38,vM aB l.hi),(39,vI (l.hi.length:Int)),(40,vI x_.2)] [] []) lS ?_))))
  rintro again12 ⟨x10,x11⟩ h
  refine rq hC [] [41] [(41,vB (decide (x11<(l.hi.length:Int))))] [] [] (qs (aT h (fun c2 h=> ?_) (fun c2 h=> ?_)))
  ·refine qk (qs (qb ?_))
   obtain⟨x13,hx13,h⟩:=bd h
   refine rq hC [oR aB hx13,.z (.nat 20)] [11,42,43] [(11,V.ref 20 0)] [(20,some (E.cells (aQ x13)))] [(20,true)] ?_
   obtain⟨x14,hx14,h⟩:=bd h
   exact rk hC [oV (gC G hx14)] [7,44,45,46,47,48] [(7,vI (min x10 x14))] [] [] (rk hC [] [40,49] [(40,vI (wr (x11+1)))] [] [] (lE h))
  ·obtain rfl:=so h
   exact cM (rq hC [] [4,5,50,51] [(4,vI x5),(5,vI x10)] [] [] (qr eR))
theorem B3(G:GS): ∀(n:Nat) (w_a0:Walking) (w_a0G2:Nat) (point:List Int) {r:Bool×Walking} (h:i_walking_walk n w_a0 point=some r),VQ G 166 [E.cells [vM aC w_a0.nest,vI w_a0.steps,ms 1 w_a0G2 1 (rL rI) w_a0.out],ar 33 w_a0G2 1 (rL rI) w_a0.out] [V.ref 0 0,vM rI point] (vB r.1) [E.cells [vM aC r.2.nest,vI r.2.steps,ms 1 (w_a0G2+1) 1 (rL rI) r.2.out],ar 33 (w_a0G2+1) 1 (rL rI) r.2.out]:=by
 intro n
 induction n with
 |zero=>intro w_a0 w_a0G2 point r h;rw [i_walking_walk.eq_def] at h;cases h
 |succ n ih=>
  intro w_a0 w_a0G2 point r h
  rw [i_walking_walk.eq_def] at h;dsimp only at h
  refine vq aO Tryz.func166 rfl fun w X β0 hC hg=> ?_
  refine rq hC [] [4] [] [] [] (qs (rq hC [oN rI point,oN aC w_a0.nest] (fr 8 8) [(15,vB (decide ((point.length:Int)=(w_a0.nest.length:Int))))] [] [] (aT h (fun c1 h=> ?_) (fun c1 h=> ?_))))
  ·refine qs ?_
   obtain⟨x1,hx1,x2,hx2,h⟩:=cS h
   obtain rfl:=so h
   exact dk hC bD [oC [] [20] (G.clone point hx1),.z (.at 5),.z (.fz 20 [22] []),.z (.int 0),oA (aP (rL rI) hx2),oQ (bZ (r:=(rL rI)) 1 (fun _=>rfl) w_a0.out),oQ (bZ (r:=(rL rI)) 1 (fun _=>rfl) [x1])] (fr 16 11) [] [(20,none),(1,some (ar 33 (w_a0G2+1) 1 (rL rI) x2)),(0,sc [vM aC w_a0.nest,vI w_a0.steps,ms 1 (w_a0G2+1) 1 (rL rI) x2])] [(20,true)] (rq hC [oN (rL rI) x2] [4,27,28,29,30,31,32] [(4,vB (decide ((x2.length:Int)≤120)))] [] [] (qw (dM 0 2 1 w_a0G2 (w_a0G2+1) 1 0 (List.map (rL rI) x2).length (e:= .arr 33 (w_a0G2+1) 1 (List.map (rL rI) x2)) (cs:=[vM aC w_a0.nest,vI w_a0.steps,ms 1 (w_a0G2+1) 1 (rL rI) x2]) rfl (by kernel_rfl) (by kernel_rfl) (by kernel_rfl) (by kernel_rfl) rfl rfl hg.2.1) (qr eW)))
  ·refine qk ?_
   obtain⟨x3,hx3,x4,hx4,h⟩:=cS h
   refine rq hC [oN rI point,oR aC hx3,oV (V2 G hx4)] [5,6,33,34,35,36,37,38,39,40,41,42,43,44,45] [(5,vI x4.1),(6,vI x4.2)] [] [] (qs (rq hC [] [7,46] [(7,vI x4.1)] [] [] (qb (bA (γ:=Nat) h (fun x_ g_=>aX [(0,V.ref 0 0),(1,vM rI point),(6,vI x4.2),(7,vI x_.2.2.2)] [(0,E.cells [vM aC x_.1,vI x_.2.1,ms 1 g_ 1 (rL rI) x_.2.2.1]),(1,ar 33 g_ 1 (rL rI) x_.2.2.1)] [0,1]) w_a0G2 (lS) ?_))))
   rintro again10 ⟨x5,x6,x7,x8⟩ g9 h
   refine qs (rq hC [] [47,48,49] [(49,vB (decide (x8<x4.2)))] [] [] (aT h (fun c2 h=> ?_) (fun c2 h=> ?_)))
   ·refine qk (qs (qb (rq hC [] (fr 52 7) [] [(0,sc [vM aC x5,vI (wr (x6+1)),ms 1 g9 1 (rL rI) x7])] [] ?_)))
    obtain⟨j11,hj11,h⟩:=uW h
    refine gN (γ:=Nat) (j:=j11) (r:=r) (fun x_ g_=>aX [(0,V.ref 0 0),(1,vM rI point),(6,vI x4.2),(7,vI x8),(74,vB x_.2.2.2)] [(0,E.cells [vM aC x_.1,vI x_.2.1,ms 1 g_ 1 (rL rI) x_.2.2.1]),(1,ar 33 g_ 1 (rL rI) x_.2.2.1)] [0,1]) ?_ ?_
    ·
     refine aS h (fun c3 h=> ?_) (fun c3 h=> ?_)
     ·obtain⟨x12,hx12,x13,hx13,x14,hx14,h⟩:=kY h
      exact rk hC (rF 3 c3++[oC [] [20] (G.clone point hx12),oF c3,oF c3,.z (.int 0),oF c3,oA (aP rI hx13),.z (.at 3),.z (.fz 20 [71] []),oQ (bZ (r:=rI) 1 (fun _=>rfl) x12),oQ (bZ (r:=rI) 1 (fun _=>rfl) [x8]),oF c3,oC [0,1] [] (ih (⟨x5,wr (x6+1),x7⟩:Walking) g9 x13 hx14),oF c3,oF c3]) (fr 59 16) [(74,vB (!x14.1))] [(20,none),(1,some (ar 33 (g9+1) 1 (rL rI) x14.2.out)),(0,sc [vM aC x14.2.nest,vI x14.2.steps,ms 1 (g9+1) 1 (rL rI) x14.2.out])] [(20,true),(0,true),(1,true)] ⟨(x14.2.nest,x14.2.steps,x14.2.out, !x14.1),(g9+1),h,lS⟩
     ·exact rk hC (rT 9 c3) (fr 59 16) [(74,vB true)] [] [] ⟨(x5,wr (x6+1),x7,true),g9,h,lS⟩
    ·rintro⟨x15,x16,x17,x18⟩ g19 h
     subst hj11
     refine aT h (fun c4 h=> ?_) (fun c4 h=> ?_)
     ·obtain rfl:=so h
      exact rq hC [] [4] [(4,vB false)] [] [] (qw (dM 0 2 1 w_a0G2 g19 1 0 (List.map (rL rI) x17).length (e:= .arr 33 g19 1 (List.map (rL rI) x17)) (cs:=[vM aC x15,vI x16,ms 1 g19 1 (rL rI) x17]) rfl (by kernel_rfl) (by kernel_rfl) (by kernel_rfl) (by kernel_rfl) rfl rfl hg.2.1) (qr eW))
     ·exact qk (rk hC [] [7,50,51] [(7,vI (wr (x8+1)))] [] [] ⟨(x15,x16,x17,wr (x8+1)),g19,h,lS⟩)
   ·obtain rfl:=so h
    exact cM (rq hC [] [4] [(4,vB true)] [] [] (qw (dM 0 2 1 w_a0G2 g9 1 0 (List.map (rL rI) x7).length (e:= .arr 33 g9 1 (List.map (rL rI) x7)) (cs:=[vM aC x5,vI x6,ms 1 g9 1 (rL rI) x7]) rfl (by kernel_rfl) (by kernel_rfl) (by kernel_rfl) (by kernel_rfl) rfl rfl hg.2.1) (qr eW)))
theorem R3{nest}{r}(h:kP n nest=some r):VQ G 123 [] [vM aC nest] (V.tup [ms 0 1 1 (rL rI) r.1,vB r.2]) [ar 33 1 1 (rL rI) r.1]:=by
 unfold kP at h
 refine vq aO Tryz.func123 rfl fun w X β0 hC hg=> ?_
 refine rq hC [] [2,3] [] [] [] (qs ?_)
 obtain⟨x1,hx1,h⟩:=bd h
 refine rq hC [oV (U9 G hx1)] [5,6,7] [(7,vB (!x1))] [] [] (aT h (fun c1 h=> ?_) (fun c1 h=> ?_))
 ·obtain rfl:=so h
  exact rq hC [] [2,3] [(2,V.t T.nilS),(3,vB false)] [] [] (qw (lk hC [.grow 2 0 33] [2] [(2,ms 0 1 1 (rL rI) [])] [(0,some (ar 33 1 1 (rL rI) []))] [(0,true)]) (qr eW))
 ·refine qk (rq hC [.z (.nat 20)] [4,8,9,10] [(4,V.ref 20 0)] [(20,sc [vM aC nest,vI 0,V.t T.nilS])] [(20,true)] (qs ?_))
  obtain⟨x2,hx2,h⟩:=bd h
  refine rq hC [.z (.at 2),.z (.growc 20 2 21 33),oC [20,21] [] (B3 G n (⟨nest,0,[]⟩:Walking) 1 [] hx2)] [11,12,13] [(13,vB (!x2.1))] [(21,some (ar 33 2 1 (rL rI) x2.2.out)),(20,sc [vM aC x2.2.nest,vI x2.2.steps,ms 21 2 1 (rL rI) x2.2.out])] [(21,true),(20,true),(21,true)] (aT h (fun c2 h=> ?_) (fun c2 h=> ?_))
  ·obtain rfl:=so h
   exact rq hC [] [2,3] [(2,V.t T.nilS),(3,vB false)] [] [] (qw (lk hC [.grow 2 0 33] [2] [(2,ms 0 1 1 (rL rI) [])] [(0,some (ar 33 1 1 (rL rI) []))] [(0,true)]) (qr eW))
  ·obtain rfl:=so h
   exact qk (rq hC [] [2,3,14,15,16,17] [(2,ms 21 2 1 (rL rI) x2.2.out),(3,vB true)] [] [] (qw (lk hC [.ren 2 21 0] [2] [(2,ms 0 1 1 (rL rI) x2.2.out)] [(0,some (ar 33 1 1 (rL rI) x2.2.out)),(21,none)] [(0,true)]) (qr eW)))
theorem R2(G:GS)(n:Nat)(s:Affine)(c0__a1:Int){r:Bool}(h:iG n s c0__a1=some r):PQ G 222 [V.agg (aQ s),V.tp [T.int .i64 c0__a1]] (vB r):=by
 unfold iG at h
 refine pq aO Tryz.func222 rfl fun w X hC=> ?_
 refine rq hC [.z (.b (true))] [2,3] [(2,V.tp (bJ s))] [] [] (vj h (fun x_=>aX [(3,vB x_)] [] []) (fun j1 h=> ?_) (fun x4 h=> ?_))
 ·
  obtain⟨x2,hx2,h⟩:=bd h
  refine aS h (fun c1 h=> ?_) (fun c1 h=> ?_)
  ·obtain⟨x3,hx3,h⟩:=bd h
   exact dk hC bD ([oV (dS G hx2),oF c1,oF c1,oV (fL G hx3)]++rF 3 c1) (fr 3 10) [(3,vB (decide (c0__a1<x3)))] [] [] (lE h)
  ·exact dk hC bD ([oV (dS G hx2)]++rT 5 c1) (fr 3 10) [(3,vB true)] [] [] (lE h)
 ·obtain rfl:=so h
  exact qr eR
theorem m4{a}{depth}{r}(h:lN n a depth=some r):PQ G 168 [V.agg (dH a),vI depth] (vB r):=by
 unfold lN at h
 refine pq aO Tryz.func168 rfl fun w X hC=> ?_
 refine rq hC [.z (.b (true)),.z (.b (true))] [2,3,4] [(2,V.tp (eG a)),(3,V.tp [T.int .i64 depth])] [] [] (vj h (fun x_=>aX [(4,vB x_)] [] []) (fun j1 h=> ?_) (fun x5 h=> ?_))
 ·
  obtain⟨x2,hx2,h⟩:=bd h
  refine aS h (fun c1 h=> ?_) (fun c1 h=> ?_)
  ·exact rk hC ([oV (eU G hx2)]++rF 5 c1++sF 6) (fr 4 17) [(4,vB false)] [] [] (lE h)
  ·obtain⟨x3,hx3,h⟩:=bd h
   refine aS h (fun c2 h=> ?_) (fun c2 h=> ?_)
   ·exact rk hC ([oV (eU G hx2)]++rT 3 c1++[oN aB a.subs,oT c1,oV (bI G hx3),oT c1]++rF 6 c2) (fr 4 17) [(4,vB false)] [] [] (lE h)
   ·obtain⟨x4,hx4,h⟩:=bd h
    exact rk hC ([oV (eU G hx2)]++rT 3 c1++[oN aB a.subs,oT c1,oV (bI G hx3),oT c1]++rT 4 c2++[oV (iD G n a.subs 222 [T.int .i64 depth] (fun q0=>iG n q0 depth) (fun q0 r h=>R2 G n q0 depth h) hx4),oT c2,oT c2]) (fr 4 17) [(4,vB (!x4))] [] [] (lE h)
 ·obtain rfl:=so h
  exact qr eR
theorem iH{a}{r}(h:lL n a=some r):PQ G 224 [V.agg (aQ a)] (vB r):=by
 unfold lL at h
 refine pq aO Tryz.func224 rfl fun w X hC=> ?_
 refine rq hC [.z (.b (true))] [1,2] [(1,V.tp (bJ a))] [] [] (vj h (fun x_=>aX [(2,vB x_)] [] []) (fun j1 h=> ?_) (fun x2 h=> ?_))
 ·
  refine aS h (fun c1 h=> ?_) (fun c1 h=> ?_)
  ·exact rk hC ([oN rI a.coefs]++rF 4 c1) (fr 2 10) [(2,vB false)] [] [] (lE h)
  ·exact rk hC ([oN rI a.coefs]++rT 4 c1) (fr 2 10) [(2,vB (decide (a.const=0)))] [] [] (lE h)
 ·obtain rfl:=so h
  exact qr eR
theorem mZ{a}{r}(h:gY n a=some r):PQ G 225 [V.agg (dH a)] (vB r):=by
 unfold gY at h
 refine pq aO Tryz.func225 rfl fun w X hC=> ?_
 refine rq hC [.z (.b (true))] [1,2] [(1,V.tp (eG a))] [] [] (vj h (fun x_=>aX [(2,vB x_)] [] []) (fun j1 h=> ?_) (fun x2 h=> ?_))
 ·
  refine aS h (fun c1 h=> ?_) (fun c1 h=> ?_)
  ·exact rk hC (rF 5 c1) (fr 2 10) [(2,vB false)] [] [] (lE h)
  ·exact rk hC (rT 3 c1++[oN aB a.subs,oT c1,oT c1]) (fr 2 10) [(2,vB (decide ((a.subs.length:Int)=0)))] [] [] (lE h)
 ·obtain rfl:=so h
  exact qr eR
theorem aCD{kind}{r}(h:N2 n kind=some r):PQ G 226 [vI kind] (vB r):=by
 unfold N2 at h
 refine pq aO Tryz.func226 rfl fun w X hC=> ?_
 refine rq hC [] [2] [] [] [] ?_
 obtain⟨x1,hx1,h⟩:=bd h
 obtain rfl:=so h
 exact rq hC [oV (bI G hx1)] [2,3,4] [(2,vB x1)] [] [] (qr eR)
theorem aA4(G:GS): ∀(n:Nat) (e:Expr) (depth:Int) (deep:Int) (count:Int) {r:Bool×Int} (h:i_exprScan n e depth deep count=some r),VQ G 169 [E.cells [vI count]] [V.agg (fM e),vI depth,vI deep,V.ref 0 0] (vB r.1) [E.cells [vI r.2]]:=by
 intro n
 induction n with
 |zero=>intro e depth deep count r h;rw [i_exprScan.eq_def] at h;cases h
 |succ n ih=>
  intro e depth deep count r h
  rw [i_exprScan.eq_def] at h;dsimp only at h
  refine vq aO Tryz.func169 rfl fun w X β0 hC hg=> ?_
  refine rq hC [.z (.b (true))] [4,8] [(4,V.tp (iK e))] [] [] (rq hC [] (fr 9 5) [] [(0,sc [vI (wr (count+1))])] [] (qs (vj h (fun x_=>aX [(1,vI depth),(2,vI deep),(3,V.ref 0 0),(4,V.tp (iK e)),(21,vB x_)] [(0,E.cells [vI (wr (count+1))])] [0]) (fun j1 h=> ?_) (fun x2 h=> ?_))))
  ·
   refine aS h (fun c1 h=> ?_) (fun c1 h=> ?_)
   ·exact rk hC (rF 3 c1) (fr 14 8) [(21,vB (decide ((5:Int)<deep)))] [] [] (lE h)
   ·exact rk hC (rT 3 c1) (fr 14 8) [(21,vB true)] [] [] (lE h)
  ·refine aT h (fun c2 h=> ?_) (fun c2 h=> ?_)
   ·obtain rfl:=so h
    exact rq hC [] [8] [(8,vB false)] [] [] (qr eW)
   ·refine qk (qs (vj h (fun x_=>aX [(1,vI depth),(2,vI deep),(3,V.ref 0 0),(4,V.tp (iK e)),(51,vB x_)] [(0,E.cells [vI (wr (count+1))])] [0]) (fun j3 h=> ?_) (fun x10 h=> ?_)))
    ·
     refine aS h (fun c3 h=> ?_) (fun c3 h=> ?_)
     ·refine aS h (fun c4 h=> ?_) (fun c4 h=> ?_)
      ·refine aS h (fun c5 h=> ?_) (fun c5 h=> ?_)
       ·exact rk hC (rF 4 c3++sF 4++rF 4 c4++[eF,oF c4]++sF 5++rF 4 c5++[eF,oF c5,eF]) (fr 22 30) [(51,vB false)] [] [] (lE h)
       ·obtain⟨x4,hx4,h⟩:=bd h
        exact rk hC (rF 4 c3++sF 4++rF 4 c4++[eF,oF c4]++sF 5++rT 3 c5++[oV (mZ G hx4),oT c5,eF,oT c5,eF]) (fr 22 30) [(51,vB (!x4))] [] [] (lE h)
      ·obtain⟨x5,hx5,h⟩:=bd h
       refine aS h (fun c6 h=> ?_) (fun c6 h=> ?_)
       ·refine aS h (fun c7 h=> ?_) (fun c7 h=> ?_)
        ·exact rk hC (rF 4 c3++sF 4++rT 3 c4++[oV (iH G hx5),oT c4,eF,oT c4,eF]++rF 4 c6++rF 4 c7++[oF c6,oF c7,oF c6]) (fr 22 30) [(51,vB false)] [] [] (lE h)
        ·obtain⟨x6,hx6,h⟩:=bd h
         exact rk hC (rF 4 c3++sF 4++rT 3 c4++[oV (iH G hx5),oT c4,eF,oT c4,eF]++rF 4 c6++rT 3 c7++[oV (mZ G hx6),oT c7,oF c6,oT c7,oF c6]) (fr 22 30) [(51,vB (!x6))] [] [] (lE h)
       ·exact rk hC (rF 4 c3++sF 4++rT 3 c4++[oV (iH G hx5),oT c4,eF,oT c4,eF]++rT 6 c6) (fr 22 30) [(51,vB true)] [] [] (lE h)
     ·refine aS h (fun c8 h=> ?_) (fun c8 h=> ?_)
      ·refine aS h (fun c9 h=> ?_) (fun c9 h=> ?_)
       ·refine aS h (fun c10 h=> ?_) (fun c10 h=> ?_)
        ·exact rk hC (rT 4 c3++rF 4 c8++rF 4 c9++[oF c8,oF c9,oF c8]++sF 4++rF 4 c10++[eF,oF c10,eF]) (fr 22 30) [(51,vB false)] [] [] (lE h)
        ·obtain⟨x7,hx7,h⟩:=bd h
         exact rk hC (rT 4 c3++rF 4 c8++rF 4 c9++[oF c8,oF c9,oF c8]++sF 4++rT 3 c10++[oV (mZ G hx7),oT c10,eF,oT c10,eF]) (fr 22 30) [(51,vB (!x7))] [] [] (lE h)
       ·obtain⟨x8,hx8,h⟩:=bd h
        refine aS h (fun c11 h=> ?_) (fun c11 h=> ?_)
        ·refine aS h (fun c12 h=> ?_) (fun c12 h=> ?_)
         ·exact rk hC (rT 4 c3++rF 4 c8++rT 3 c9++[oV (iH G hx8),oT c9,oF c8,oT c9,oF c8]++rF 4 c11++rF 4 c12++[oF c11,oF c12,oF c11]) (fr 22 30) [(51,vB false)] [] [] (lE h)
         ·obtain⟨x9,hx9,h⟩:=bd h
          exact rk hC (rT 4 c3++rF 4 c8++rT 3 c9++[oV (iH G hx8),oT c9,oF c8,oT c9,oF c8]++rF 4 c11++rT 3 c12++[oV (mZ G hx9),oT c12,oF c11,oT c12,oF c11]) (fr 22 30) [(51,vB (!x9))] [] [] (lE h)
        ·exact rk hC (rT 4 c3++rF 4 c8++rT 3 c9++[oV (iH G hx8),oT c9,oF c8,oT c9,oF c8]++rT 6 c11) (fr 22 30) [(51,vB true)] [] [] (lE h)
      ·exact rk hC (rT 4 c3++rT 6 c8++sT 6) (fr 22 30) [(51,vB true)] [] [] (lE h)
    ·refine aT h (fun c13 h=> ?_) (fun c13 h=> ?_)
     ·obtain rfl:=so h
      exact rq hC [] [8] [(8,vB false)] [] [] (qr eW)
     ·refine qk (qs (qb (rq hC [] (fr 52 4) [(52,vB (decide (e.kind=1)))] [] [] (aT h (fun c14 h=> ?_) (fun c14 h=> ?_)))))
      ·refine vj h (fun x_=>aX [(8,vB x_)] [(0,E.cells [vI (wr (count+1))])] [0]) (fun j11 h=> ?_) (fun x13 h=> ?_)
       ·
        obtain⟨x12,hx12,h⟩:=bd h
        refine aS h (fun c15 h=> ?_) (fun c15 h=> ?_)
        ·exact rk hC ([oV (bI G hx12)]++rF 5 c15) [8,56,57,58,59,60,61,62,63,64] [(8,vB false)] [] [] (lE h)
        ·exact rk hC ([oV (bI G hx12)]++rT 3 c15++[oN aM e.kids,oT c15,oT c15]) [8,56,57,58,59,60,61,62,63,64] [(8,vB (decide ((e.kids.length:Int)=0)))] [] [] (lE h)
       ·obtain rfl:=so h
        exact qr eW
      ·refine rq hC [] (fr 65 4) [(65,vB (decide (e.kind=2)))] [] [] (aT h (fun c16 h=> ?_) (fun c16 h=> ?_))
       ·refine vj h (fun x_=>aX [(8,vB x_)] [(0,E.cells [vI (wr (count+1))])] [0]) (fun j14 h=> ?_) (fun x17 h=> ?_)
        ·
         obtain⟨x15,hx15,h⟩:=bd h
         refine aS h (fun c17 h=> ?_) (fun c17 h=> ?_)
         ·exact rk hC ([oV (dS G hx15)]++rF 6 c17++sF 5) [8,69,70,71,72,73,74,75,76,77,78,79,80,81,82,83,84] [(8,vB false)] [] [] (lE h)
         ·obtain⟨x16,hx16,h⟩:=bd h
          refine aS h (fun c18 h=> ?_) (fun c18 h=> ?_)
          ·exact rk hC ([oV (dS G hx15)]++rT 3 c17++[oV (fL G hx16)]++rT 3 c17++rF 5 c18) [8,69,70,71,72,73,74,75,76,77,78,79,80,81,82,83,84] [(8,vB false)] [] [] (lE h)
          ·exact rk hC ([oV (dS G hx15)]++rT 3 c17++[oV (fL G hx16)]++rT 3 c17++rT 3 c18++[oN aM e.kids,oT c18,oT c18]) [8,69,70,71,72,73,74,75,76,77,78,79,80,81,82,83,84] [(8,vB (decide ((e.kids.length:Int)=0)))] [] [] (lE h)
        ·obtain rfl:=so h
         exact qr eW
       ·refine rq hC [] (fr 85 4) [(85,vB (decide (e.kind=3)))] [] [] (aT h (fun c19 h=> ?_) (fun c19 h=> ?_))
        ·refine vj h (fun x_=>aX [(8,vB x_)] [(0,E.cells [vI (wr (count+1))])] [0]) (fun j18 h=> ?_) (fun x20 h=> ?_)
         ·
          obtain⟨x19,hx19,h⟩:=bd h
          refine aS h (fun c20 h=> ?_) (fun c20 h=> ?_)
          ·exact rk hC ([oV (m4 G hx19)]++rF 5 c20) [8,89,90,91,92,93,94,95,96,97,98] [(8,vB false)] [] [] (lE h)
          ·exact rk hC ([oV (m4 G hx19)]++rT 3 c20++[oN aM e.kids,oT c20,oT c20]) [8,89,90,91,92,93,94,95,96,97,98] [(8,vB (decide ((e.kids.length:Int)=0)))] [] [] (lE h)
         ·obtain rfl:=so h
          exact qr eW
        ·refine vj h (fun x_=>aX [(1,vI depth),(2,vI deep),(3,V.ref 0 0),(4,V.tp (iK e)),(99,vB x_)] [(0,E.cells [vI (wr (count+1))])] [0]) (fun j21 h=> ?_) (fun x23 h=> ?_)
         ·
          obtain⟨x22,hx22,h⟩:=bd h
          refine aS h (fun c21 h=> ?_) (fun c21 h=> ?_)
          ·exact rk hC ([oV (aCD G hx22)]++rF 3 c21++[oN aM e.kids,oF c21,oF c21]) (fr 99 11) [(99,vB (!decide ((e.kids.length:Int)=2)))] [] [] (lE h)
          ·exact rk hC ([oV (aCD G hx22)]++rT 5 c21) (fr 99 11) [(99,vB true)] [] [] (lE h)
         ·refine aT h (fun c22 h=> ?_) (fun c22 h=> ?_)
          ·obtain rfl:=so h
           exact rq hC [] [8] [(8,vB false)] [] [] (qr eW)
          ·refine qk (vj h (fun x_=>aX [(8,vB x_.2)] [(0,E.cells [vI x_.1])] [0]) (fun j24 h=> ?_) ?_)
           ·
            obtain⟨x25,hx25,x26,hx26,h⟩:=cS h
            refine aS h (fun c23 h=> ?_) (fun c23 h=> ?_)
            ·exact rk hC ([.z (.row (fU x25)),oQ (jG aM hx25 (eA x25)),oC [0] [] (ih x25 depth (wr (deep+1)) (wr (count+1)) hx26)]++rF 10 c23) [8,110,111,112,113,114,115,116,117,118,119,120,121,122,123,124,125,126,127,128,129] [(8,vB false)] [(0,sc [vI x26.2])] [(0,true)] (lE h)
            ·obtain⟨x27,hx27,x28,hx28,h⟩:=cS h
             exact rk hC ([.z (.row (fU x25)),oQ (jG aM hx25 (eA x25)),oC [0] [] (ih x25 depth (wr (deep+1)) (wr (count+1)) hx26)]++rT 3 c23++[.z (.row (fU x27)),oQ (jG aM hx27 (eA x27))]++rT 6 c23++[oC [0] [] (ih x27 depth (wr (deep+1)) x26.2 hx28),oT c23]) [8,110,111,112,113,114,115,116,117,118,119,120,121,122,123,124,125,126,127,128,129] [(8,vB x28.1)] [(0,sc [vI x28.2])] [(0,true),(0,true)] (lE h)
           ·rintro⟨x29,x30⟩ h
            obtain rfl:=so h
            exact qr eW
theorem U8{s}{depth}{r}(h:l9 n s depth=some r):PQ G 126 [V.agg (d4 s),vI depth] (vB r):=by
 unfold l9 at h
 refine pq aO Tryz.func126 rfl fun w X hC=> ?_
 refine rq hC [.z (.b (true))] [2,4] [(2,V.tp (pB s))] [] [] (rq hC [.z (.nat 20)] [5] [(5,V.ref 20 0)] [(20,sc [vI 0])] [(20,true)] (vj h (fun x_=>aX [(4,vB x_.2)] [(20,E.cells [vI x_.1])] [20]) (fun j1 h=> ?_) ?_))
 ·
  obtain⟨x2,hx2,h⟩:=bd h
  refine aS h (fun c1 h=> ?_) (fun c1 h=> ?_)
  ·exact rk hC ([oV (bI G hx2)]++rF 5 c1++sF 5) [4,6,7,8,9,10,11,12,13,14,15,16,17,18,19] [(4,vB false)] [] [] (lE h)
  ·obtain⟨x3,hx3,h⟩:=bd h
   refine aS h (fun c2 h=> ?_) (fun c2 h=> ?_)
   ·exact rk hC ([oV (bI G hx2)]++rT 4 c1++[oV (m4 G hx3),oT c1]++rF 5 c2) [4,6,7,8,9,10,11,12,13,14,15,16,17,18,19] [(4,vB false)] [] [] (lE h)
   ·obtain⟨x4,hx4,h⟩:=bd h
    exact rk hC ([oV (bI G hx2)]++rT 4 c1++[oV (m4 G hx3),oT c1]++rT 4 c2++[oC [20] [] (aA4 G n s.value depth 1 0 hx4),oT c2]) [4,6,7,8,9,10,11,12,13,14,15,16,17,18,19] [(4,vB x4.1)] [(20,sc [vI x4.2])] [(20,true)] (lE h)
 ·rintro⟨x5,x6⟩ h
  obtain rfl:=so h
  exact qr eR
theorem qH(G:GS)(n:Nat)(s:Stmt)(c0__a1:Part){r:Bool}(h:cH n s c0__a1=some r):PQ G 125 [V.agg (d4 s),V.tp (pC c0__a1)] (vB r):=by
 unfold cH at h
 refine pq aO Tryz.func125 rfl fun w X hC=> ?_
 refine rq hC [.z (.b (true))] [2,3] [(2,V.tp (pB s))] [] [] ?_
 obtain⟨x1,hx1,h⟩:=bd h
 obtain rfl:=so h
 exact rq hC [oN aC c0__a1.nest,oV (U8 G hx1)] (fr 3 7) [(3,vB (!x1))] [] [] (qr eR)
theorem U5(G:GS)(n:Nat)(n_a0:Int){r:Bool}(h:jY n n_a0=some r):PQ G 170 [vI n_a0] (vB r):=by
 unfold jY at h
 refine pq aO Tryz.func170 rfl fun w X hC=> ?_
 refine rq hC [] [2] [] [] [] ?_
 obtain⟨x1,hx1,h⟩:=bd h
 obtain rfl:=so h
 exact rq hC [oV (bI G hx1)] (fr 2 4) [(2,vB (!x1))] [] [] (qr eR)
theorem aCC{point}{r}(h:pV n point=some r):PQ G 127 [vM rI point] (vB r):=by
 unfold pV at h
 refine pq aO Tryz.func127 rfl fun w X hC=> ?_
 refine rq hC [] [2] [] [] [] (vj h (fun x_=>aX [(2,vB x_)] [] []) (fun j1 h=> ?_) (fun x3 h=> ?_))
 ·
  refine aS h (fun c1 h=> ?_) (fun c1 h=> ?_)
  ·exact rk hC ([oN rI point]++rF 4 c1) (fr 2 9) [(2,vB false)] [] [] (lE h)
  ·obtain⟨x2,hx2,h⟩:=bd h
   exact rk hC [oN rI point,oT c1,oT c1,oV (eS G n point 170 (fun q0=>jY n q0) (fun q0 r h=>U5 G n q0 h) hx2),oT c1,oT c1] (fr 2 9) [(2,vB (!x2))] [] [] (lE h)
 ·obtain rfl:=so h
  exact qr eR
theorem rX(G:GS)(n:Nat)(s:List Stmt)(fF:FuncId)(fC0:List T)(f:Stmt→Option Bool)(hf: ∀(q0:Stmt) r,f q0=some r→PQ G fF [V.agg (d4 q0),V.tp fC0] (vB r)){r:Int}(h:iF n s f=some r):PQ G 167 [vM aJ s,V.fn fF [V.tp fC0]] (vI r):=by
 unfold iF at h
 refine pq aO Tryz.func167 rfl fun w X hC=> ?_
 refine rq hC [] [4] [] [] [] (qs (rq hC [oN aJ s] [6,7,8] [(7,vI (s.length:Int)),(8,vI 0)] [] [] (qb (jP h (fun x_=>aX [(0,vM aJ s),(1,V.fn fF [V.tp fC0]),(7,vI (s.length:Int)),(8,vI x_)] [] []) lS ?_))))
 rintro again2 x1 h
 refine rq hC [] [9] [(9,vB (decide (x1<(s.length:Int))))] [] [] (qs (aT h (fun c1 h=> ?_) (fun c1 h=> ?_)))
 ·refine qk (qs (qb (rq hC [] [5,10] [(5,vI x1)] [] [] ?_)))
  obtain⟨x3,hx3,x4,hx4,h⟩:=cS h
  refine rq hC [oR aJ hx3,oV (hf x3 _ hx4)] (fr 11 6) [(16,vB x4)] [] [] (aT h (fun c2 h=> ?_) (fun c2 h=> ?_))
  ·obtain rfl:=so h
   exact rq hC [] [4,17] [(4,vI x1)] [] [] (qr eR)
  ·exact qk (rk hC [] [8,18] [(8,vI (wr (x1+1)))] [] [] (lE h))
 ·obtain rfl:=so h
  exact cM (rq hC [] [4] [(4,vI (-1))] [] [] (qr eR))
theorem o7(G:GS)(n:Nat)(s:List Stmt)(fF:FuncId)(fC0:List T)(f:Stmt→Option Bool)(hf: ∀(q0:Stmt) r,f q0=some r→PQ G fF [V.agg (d4 q0),V.tp fC0] (vB r)){r:Bool}(h:dU n s f=some r):PQ G 124 [vM aJ s,V.fn fF [V.tp fC0]] (vB r):=by
 unfold dU at h
 refine pq aO Tryz.func124 rfl fun w X hC=> ?_
 refine rq hC [] [4] [] [] [] ?_
 obtain⟨x1,hx1,h⟩:=bd h
 obtain rfl:=so h
 exact rq hC [oV (rX G n s fF fC0 f hf hx1)] (fr 4 5) [(4,vB (decide ((0:Int)≤x1)))] [] [] (qr eR)
theorem kX{p}{r}(h:cG n p=some r):VQ G 76 [] [V.agg (bX p)] (V.tup [ms 0 1 3 aR r.1,vB r.2]) [ar 135 1 3 aR r.1]:=by
 unfold cG at h
 refine vq aO Tryz.func76 rfl fun w X β0 hC hg=> ?_
 refine rq hC [.z (.b (true))] [1,2,3] [(1,V.tp (bU p))] [] [] (qs (vj h (fun x_=>aX [(1,V.tp (bU p)),(22,vB x_)] [] []) (fun j1 h=> ?_) (fun x3 h=> ?_)))
 ·
  obtain⟨x2,hx2,h⟩:=bd h
  refine aS h (fun c1 h=> ?_) (fun c1 h=> ?_)
  ·exact rk hC ([oV (yK G hx2)]++rF 3 c1++[oN aD p.parts,oF c1,oF c1]) (fr 13 10) [(22,vB (decide ((4:Int)<(p.parts.length:Int))))] [] [] (lE h)
  ·exact rk hC ([oV (yK G hx2)]++rT 5 c1) (fr 13 10) [(22,vB true)] [] [] (lE h)
 ·refine aT h (fun c2 h=> ?_) (fun c2 h=> ?_)
  ·obtain rfl:=so h
   exact rq hC [] [2,3] [(2,V.t T.nilS),(3,vB false)] [] [] (qw (lk hC [.grow 2 0 135] [2] [(2,ms 0 1 3 aR [])] [(0,some (ar 135 1 3 aR []))] [(0,true)]) (qr eW))
  ·refine qk (rq hC [] [4] [(4,V.t T.nilS)] [] [] (qs (rq hC [oN aD p.parts] (fr 23 4) [(24,vM aD p.parts),(25,vI (p.parts.length:Int)),(26,vI 0)] [] [] (qb (qw (lk hC [.grow 4 20 135] [4] [(4,ms 20 1 3 aR [])] [(20,some (ar 135 1 3 aR []))] [(20,true)]) ?_)))))
   refine bA (γ:=Nat) h (fun x_ g_=>aX [(1,V.tp (bU p)),(4,ms 20 g_ 3 aR x_.1),(24,vM aD p.parts),(25,vI (p.parts.length:Int)),(26,vI x_.2)] [(20,ar 135 g_ 3 aR x_.1)] [20]) 1 (lS) ?_
   rintro again7 ⟨x4,x5⟩ g6 h
   refine rq hC [] [27] [(27,vB (decide (x5<(p.parts.length:Int))))] [] [] (qs (aT h (fun c3 h=> ?_) (fun c3 h=> ?_)))
   ·refine qk (qs (qb ?_))
    obtain⟨x8,hx8,h⟩:=bd h
    refine rq hC [oR aD hx8,.z (.nat 21),.z (.at 0),.z (.fp 21 [6])] [5,6,28,29,30] [(5,vI x5),(6,V.tp (pC x8))] [(21,none)] [(21,true)] ?_
    obtain⟨x9,hx9,h⟩:=bd h
    refine rq hC [oC [] [22] (R3 G hx9)] [7,8,31,32,33,34,35,36] [(7,ms 22 1 1 (rL rI) x9.1),(8,vB x9.2)] [(22,some (ar 33 1 1 (rL rI) x9.1))] [(22,true)] (qs (vj h (fun x_=>aX [(1,V.tp (bU p)),(4,ms 20 g6 3 aR x4),(5,vI x5),(6,V.tp (pC x8)),(7,ms 22 1 1 (rL rI) x9.1),(24,vM aD p.parts),(25,vI (p.parts.length:Int)),(26,vI x5),(51,vB x_)] [(20,ar 135 g6 3 aR x4),(22,ar 33 1 1 (rL rI) x9.1)] [20,21,22]) (fun j10 h=> ?_) (fun x13 h=> ?_)))
    ·
     refine aS h (fun c4 h=> ?_) (fun c4 h=> ?_)
     ·obtain⟨x11,hx11,h⟩:=bd h
      refine aS h (fun c5 h=> ?_) (fun c5 h=> ?_)
      ·obtain⟨x12,hx12,h⟩:=bd h
       exact rk hC (rF 3 c4++[oN aJ x8.body,oF c4,oV (bI G hx11),oF c4,oF c4]++rF 4 c5++[oV (o7 G n x8.body 125 (pC x8) (fun q0=>cH n q0 x8) (fun q0 r h=>qH G n q0 x8 h) hx12),oF c5]) (fr 37 15) [(51,vB x12)] [] [] (lE h)
      ·exact rk hC (rF 3 c4++[oN aJ x8.body,oF c4,oV (bI G hx11),oF c4,oF c4]++rT 5 c5) (fr 37 15) [(51,vB true)] [] [] (lE h)
     ·exact rk hC (rT 6 c4++sT 5) (fr 37 15) [(51,vB true)] [] [] (lE h)
    ·refine aT h (fun c6 h=> ?_) (fun c6 h=> ?_)
     ·obtain rfl:=so h
      exact rq hC [] [2,3] [(2,V.t T.nilS),(3,vB false)] [] [] (qw (lk hC [.grow 2 0 135] [2] [(2,ms 0 1 3 aR [])] [(0,some (ar 135 1 3 aR []))] [(0,true)]) (qr eW))
     ·refine qk (rq hC [oN (rL rI) x9.1] [52,53,54] [(52,ms 22 1 1 (rL rI) x9.1),(53,vI (x9.1.length:Int)),(54,vI 0)] [] [] (qb (bA (γ:=Nat) h (fun x_ g_=>aX [(1,V.tp (bU p)),(4,ms 20 g_ 3 aR x_.1),(5,vI x5),(6,V.tp (pC x8)),(24,vM aD p.parts),(25,vI (p.parts.length:Int)),(26,vI x5),(52,ms 22 1 1 (rL rI) x9.1),(53,vI (x9.1.length:Int)),(54,vI x_.2)] [(20,ar 135 g_ 3 aR x_.1),(22,ar 33 1 1 (rL rI) x9.1)] [20,21,22]) g6 (lS) ?_)))
      rintro again17 ⟨x14,x15⟩ g16 h
      refine rq hC [] [55] [(55,vB (decide (x15<(x9.1.length:Int))))] [] [] (qs (aT h (fun c7 h=> ?_) (fun c7 h=> ?_)))
      ·refine qk (qs (qb ?_))
       obtain⟨x18,hx18,h⟩:=bd h
       refine rq hC [oQ (iX (rL rI) hx18),oX (rL rI) hx18] [10,56,57] [(10,vM rI x18)] [] [] (qs ?_)
       obtain⟨x19,hx19,h⟩:=bd h
       refine rq hC [oV (aCC G hx19)] [58,59,60] [(60,vB (!x19))] [] [] (aT h (fun c8 h=> ?_) (fun c8 h=> ?_))
       ·obtain rfl:=so h
        exact rq hC [] [2,3] [(2,V.t T.nilS),(3,vB false)] [] [] (qw (lk hC [.grow 2 0 135] [2] [(2,ms 0 1 3 aR [])] [(0,some (ar 135 1 3 aR []))] [(0,true)]) (qr eW))
       ·refine qk (rq hC [oN aJ x8.body] (fr 61 4) [(62,vM aJ x8.body),(63,vI (x8.body.length:Int)),(64,vI 0)] [] [] (qb (bA (γ:=Nat) h (fun x_ g_=>aX [(1,V.tp (bU p)),(4,ms 20 g_ 3 aR x_.1),(5,vI x5),(6,V.tp (pC x8)),(10,vM rI x18),(24,vM aD p.parts),(25,vI (p.parts.length:Int)),(26,vI x5),(52,ms 22 1 1 (rL rI) x9.1),(53,vI (x9.1.length:Int)),(54,vI x15),(62,vM aJ x8.body),(63,vI (x8.body.length:Int)),(64,vI x_.2)] [(20,ar 135 g_ 3 aR x_.1),(22,ar 33 1 1 (rL rI) x9.1)] [20,21,22]) g16 (lS) ?_)))
        rintro again23 ⟨x20,x21⟩ g22 h
        refine rq hC [] [65] [(65,vB (decide (x21<(x8.body.length:Int))))] [] [] (qs (aT h (fun c9 h=> ?_) (fun c9 h=> ?_)))
        ·refine qk (qs (qb ?_))
         obtain⟨x24,hx24,h⟩:=bd h
         refine rq hC [oR aJ hx24,.z (.nat 23)] [11,12,66,67,68] [(11,vI x21),(12,V.ref 23 0)] [(23,some (E.cells (d4 x24)))] [(23,true)] (qs ?_)
         obtain⟨x25,hx25,h⟩:=bd h
         refine rq hC [oV (wL G hx25)] (fr 69 5) [(73,vB (!x25))] [] [] (aT h (fun c10 h=> ?_) (fun c10 h=> ?_))
         ·obtain rfl:=so h
          exact rq hC [] [2,3] [(2,V.t T.nilS),(3,vB false)] [] [] (qw (lk hC [.grow 2 0 135] [2] [(2,ms 0 1 3 aR [])] [(0,some (ar 135 1 3 aR []))] [(0,true)]) (qr eW))
         ·refine qk ?_
          obtain⟨x26,hx26,x27,hx27,h⟩:=cS h
          exact rk hC [oC [] [24] (G.clone x18 hx26),.z (.at 4),.z (.fz 24 [78] []),.z (.int 0),oA (aP aR hx27),oQ (bZ (r:=aR) 3 uH x20),oQ (bZ (r:=aR) 3 uH [(⟨x5,x21,x26⟩:Inst)])] [4,74,75,76,77,78,79,80,81] [(4,ms 20 (g22+1) 3 aR x27)] [(24,none),(20,some (ar 135 (g22+1) 3 aR x27))] [(24,true)] (rk hC [] [64,82] [(64,vI (wr (x21+1)))] [] [] ⟨(x27,wr (x21+1)),(g22+1),h,lS⟩)
        ·exact cM (rk hC [] [54,83] [(54,vI (wr (x15+1)))] [] [] ⟨(x20,wr (x15+1)),g22,h,lS⟩)
      ·exact cM (rk hC [] [26,84] [(26,vI (wr (x5+1)))] [] [] ⟨(x14,wr (x5+1)),g16,h,lS⟩)
   ·obtain rfl:=so h
    exact cM (rq hC [oN aR x4] [2,3,85,86,87,88] [(2,ms 20 g6 3 aR x4),(3,vB (decide ((x4.length:Int)≤120)))] [] [] (qw (lk hC [.ren 2 20 0] [2] [(2,ms 0 1 3 aR x4)] [(0,some (ar 135 1 3 aR x4)),(20,none)] [(0,true)]) (qr eW)))
end Go.Lift
