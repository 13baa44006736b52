/- The walks: the code computes what the plain functions say. -/
import Derived.Test.YtiplelpjhgnmoaaGreatMModels
import Derived.Test.YtiplelpjhgnmoaaGreatMWalks1
set_option maxRecDepth 10000
set_option linter.unusedVariables false
namespace Go.Lift
open Go Go.Proofs
variable (G:GS) {n:Nat}
theorem mV{a}{r}(h:cL n a=some r):VQ G 65 [] [V.agg (aK a)] (V.agg [ms 0 1 1 rI r.coefs,vI r.const]) [ar 3 1 1 rI r.coefs]:=by
 unfold cL at h
 refine vq aO Tryz.func65 rfl fun w X β0 hC hg=> ?_
 refine rq hC [.z (.b (true)),.z (.nat 20)] [1,2] [(1,V.tp (aY a)),(2,V.ref 20 0)] [(20,sc [V.t T.nilS,vI 0])] [(20,true)] (qs ?_)
 obtain⟨x1,hx1,h⟩:=bd h
 obtain rfl:=so h
 exact dk hC bF [oC [] [21] (G.clone a.coefs hx1)] (fr 3 6) [] [(21,some (ar 3 1 1 rI x1)),(20,sc [ms 21 1 1 rI x1,vI a.const])] [(21,true)] (qw (lk hC [.rn 21 0 [] [20]] [] [] [(20,sc [ms 0 1 1 rI x1,vI a.const]),(21,none),(0,some (ar 3 1 1 rI x1))] [(0,true)]) (qr eW))
theorem vO(G:GS)(n:Nat)(a:Affine){r:Affine}(h:cL n a=some r):PQ G 65 [V.agg (aK a)] (V.agg (aK r)):=by
 unfold cL at h
 refine pq aO Tryz.func65 rfl fun w X hC=> ?_
 refine rq hC [.z (.b (true)),.z (.nat 20)] [1,2] [(1,V.tp (aY a)),(2,V.ref 20 0)] [(20,sc [V.t T.nilS,vI 0])] [(20,true)] (qs ?_)
 obtain⟨x1,hx1,h⟩:=bd h
 obtain rfl:=so h
 exact dk hC bF [oC [] [21] (G.clone a.coefs hx1)] (fr 3 6) [] [(21,some (ar 3 1 1 rI x1)),(20,sc [ms 21 1 1 rI x1,vI a.const])] [(21,true)] (qw (lk hC [.fz 21 [] [20]] [] [] [(20,sc [vM rI x1,vI a.const]),(21,none)] []) (qr eR))
theorem G9{a}{k}{b}{r}(h:C3 n a k b=some r):VQ G 32 [] [V.agg (aK a),vI k,V.agg (aK b)] (V.agg [ms 0 1 1 rI r.coefs,vI r.const]) [ar 3 1 1 rI r.coefs]:=by
 unfold C3 at h
 refine vq aO Tryz.func32 rfl fun w X β0 hC hg=> ?_
 refine rq hC [.z (.b (true)),.z (.b (true)),.z (.nat 20)] [3,5,6] [(3,V.tp (aY a)),(5,V.tp (aY b)),(6,V.ref 20 0)] [(20,sc [V.t T.nilS,vI 0])] [(20,true)] ?_
 obtain⟨x1,hx1,h⟩:=bd h
 refine rq hC [oC [] [21] (mV G hx1),.z (.nat 22)] [7,10,11] [(7,V.ref 22 0)] [(21,some (ar 3 1 1 rI x1.coefs)),(22,sc [ms 21 1 1 rI x1.coefs,vI x1.const])] [(21,true),(22,true)] (qs (rq hC [oN rI b.coefs] (fr 12 4) [(13,vM rI b.coefs),(14,vI (b.coefs.length:Int)),(15,vI 0)] [] [] (qb (bD (γ:=Nat) h (fun x_ g_=>aZ [(1,vI k),(5,V.tp (aY b)),(6,V.ref 20 0),(7,V.ref 22 0),(13,vM rI b.coefs),(14,vI (b.coefs.length:Int)),(15,vI x_.2)] [(20,E.cells [V.t T.nilS,vI 0]),(21,ar 3 g_ 1 rI x_.1),(22,E.cells [ms 21 g_ 1 rI x_.1,vI x1.const])] [20,21,22]) 1 (lS) ?_))))
 rintro again5 ⟨x2,x3⟩ g4 h
 refine rq hC [] [16] [(16,vB (decide (x3<(b.coefs.length:Int))))] [] [] (qs (aS h (fun c1 h=> ?_) (fun c1 h=> ?_)))
 ·refine qk (qs (qb ?_))
  obtain⟨x6,hx6,h⟩:=bd h
  refine rq hC [oR rI hx6] [8,9,17,18,19] [(8,vI x3),(9,vI x6)] [] [] ?_
  obtain⟨x7,hx7,x8,hx8,h⟩:=cT h
  exact rk hC [oQ (jA rI hx7),oX rI hx7,oQ (jA rI hx7),oX rI hx7,.z (.rows (List.map rI x8)),.z (.lenc 22 0 (List.map rI x8).length),oQ (str rI hx8),oQ (gR rI hx8)] (fr 20 10) [] [(21,some (ar 3 g4 1 rI x8)),(22,sc [ms 21 g4 1 rI x8,vI x1.const])] [] (rk hC [] [15,30] [(15,vI (wr (x3+1)))] [] [] ⟨(x8,wr (x3+1)),g4,h,lS⟩)
 ·obtain rfl:=so h
  exact cV (rq hC [] (fr 31 8) [] [(22,sc [ms 21 g4 1 rI x2,vI (wr (x1.const+(wr (k*b.const))))])] [] (rq hC [] [39] [] [(20,sc [ms 21 g4 1 rI x2,vI (wr (x1.const+(wr (k*b.const))))])] [] (qw (lk hC [.rn 21 0 [] [20,22]] [] [] [(20,sc [ms 0 1 1 rI x2,vI (wr (x1.const+(wr (k*b.const))))]),(22,sc [ms 0 1 1 rI x2,vI (wr (x1.const+(wr (k*b.const))))]),(21,none),(0,some (ar 3 1 1 rI x2))] [(0,true)]) (qr eW))))
theorem aAe{a}{v}{b}{r}(h:uL n a v b=some r):VQ G 37 [] [V.agg (aK a),vI v,V.agg (aK b)] (V.agg [ms 0 1 1 rI r.coefs,vI r.const]) [ar 3 1 1 rI r.coefs]:=by
 unfold uL at h
 refine vq aO Tryz.func37 rfl fun w X β0 hC hg=> ?_
 refine rq hC [.z (.b (true)),.z (.b (true)),.z (.nat 20)] [3,5,6] [(3,V.tp (aY a)),(5,V.tp (aY b)),(6,V.ref 20 0)] [(20,sc [V.t T.nilS,vI 0])] [(20,true)] ?_
 obtain⟨x1,hx1,h⟩:=bd h
 refine rq hC [oC [] [21] (mV G hx1),.z (.nat 22)] [7,9,10] [(7,V.ref 22 0)] [(21,some (ar 3 1 1 rI x1.coefs)),(22,sc [ms 21 1 1 rI x1.coefs,vI x1.const])] [(21,true),(22,true)] ?_
 obtain⟨x2,hx2,h⟩:=bd h
 refine rq hC [oQ (jA rI hx2),oX rI hx2] [8,11,12,13,14,15] [(8,vI x2)] [] [] ?_
 obtain⟨x3,hx3,h⟩:=bd h
 refine rq hC [oQ (jA rI hx2),oX rI hx2,.z (.rows (List.map rI x3)),.z (.lenc 22 0 (List.map rI x3).length),oQ (str rI hx3),oQ (gR rI hx3)] (fr 16 4) [] [(21,some (ar 3 1 1 rI x3)),(22,sc [ms 21 1 1 rI x3,vI x1.const])] [] ?_
 obtain⟨x4,hx4,h⟩:=bd h
 obtain rfl:=so h
 exact rq hC [.z (.at 5),.z (.fz 21 [] [22]),oC [] [23] (G9 G hx4)] (fr 20 4) [] [(22,sc [vM rI x3,vI x1.const]),(21,none),(23,some (ar 3 1 1 rI x4.coefs)),(20,sc [ms 23 1 1 rI x4.coefs,vI x4.const])] [(23,true)] (qw (lk hC [.rn 23 0 [] [20]] [] [] [(20,sc [ms 0 1 1 rI x4.coefs,vI x4.const]),(23,none),(0,some (ar 3 1 1 rI x4.coefs))] [(0,true)]) (qr eW))
theorem F6(G:GS)(n:Nat)(a:Affine)(c0__a1:Int)(c1__a2:Affine){r:Affine}(h:fI n a c0__a1 c1__a2=some r):PQ G 36 [V.agg (aK a),V.tp [T.int .i64 c0__a1],V.tp (aY c1__a2)] (V.agg (aK r)):=by
 unfold fI at h
 refine pq aO Tryz.func36 rfl fun w X hC=> ?_
 refine rq hC [.z (.b (true)),.z (.nat 20)] [3,4] [(3,V.tp (aY a)),(4,V.ref 20 0)] [(20,sc [V.t T.nilS,vI 0])] [(20,true)] ?_
 obtain⟨x1,hx1,h⟩:=bd h
 obtain rfl:=so h
 exact rq hC [oC [] [21] (aAe G hx1)] (fr 5 4) [] [(21,some (ar 3 1 1 rI x1.coefs)),(20,sc [ms 21 1 1 rI x1.coefs,vI x1.const])] [(21,true)] (qw (lk hC [.fz 21 [] [20]] [] [] [(20,some (E.cells (aK x1))),(21,none)] []) (qr eR))
theorem D6{s}{r}(h:qB n s=some r):PQ G 176 [V.agg (dR s)] (V.agg (dR r)):=by
 unfold qB at h
 refine pq aO Tryz.func176 rfl fun w X hC=> ?_
 refine rq hC [.z (.b (true)),.z (.nat 20)] [1,2] [(1,V.tp (oO s)),(2,V.ref 20 0)] [(20,sc [vS [],V.t T.nilS,vI 0,vI 0,V.t T.nilS,vI 0,vS [],V.t T.nilS,V.t T.nilS])] [(20,true)] ?_
 obtain⟨x1,hx1,h⟩:=bd h
 obtain rfl:=so h
 exact rq hC [oV (aCI G n s 65 (fun q0=>cL n q0) (fun q0 r h=>vO G n q0 h) hx1)] [3,4] [] [(20,some (E.cells (dR x1)))] [] (qr eR)
theorem kY{list}{r}(h:eX n list=some r):VQ G 231 [] [vM aA list] (ms 0 1 2 aA r) [ar 65 1 2 aA r]:=by
 unfold eX at h
 refine vq aO Tryz.func231 rfl fun w X β0 hC hg=> ?_
 refine rq hC [] [2] [] [] [] (rq hC [] [3] [(3,V.t T.nilS)] [] [] (qs (rq hC [oN aA list] [6,7,8] [(6,vM aA list),(7,vI (list.length:Int)),(8,vI 0)] [] [] (qb (qw (lk hC [.grow 3 20 65] [3] [(3,ms 20 1 2 aA [])] [(20,some (ar 65 1 2 aA []))] [(20,true)]) ?_)))))
 refine bD (γ:=Nat) h (fun x_ g_=>aZ [(3,ms 20 g_ 2 aA x_.1),(6,vM aA list),(7,vI (list.length:Int)),(8,vI x_.2)] [(20,ar 65 g_ 2 aA x_.1)] [20]) 1 (lS) ?_
 rintro again4 ⟨x1,x2⟩ g3 h
 refine rq hC [] [9] [(9,vB (decide (x2<(list.length:Int))))] [] [] (qs (aS h (fun c1 h=> ?_) (fun c1 h=> ?_)))
 ·refine qk (qs (qb ?_))
  obtain⟨x5,hx5,h⟩:=bd h
  refine rq hC [oR aA hx5,.z (.nat 21)] [5,10,11] [(5,V.ref 21 0)] [(21,some (E.cells (aK x5)))] [(21,true)] ?_
  obtain⟨x6,hx6,x7,hx7,h⟩:=cT h
  exact rk hC [oV (vO G n x5 hx6),.z (.int 0),oA (aP aA hx7),oQ (b6 (r:=aA) 2 aX x1),oQ (b6 (r:=aA) 2 aX [x6])] [3,12,13,14,15,16] [(3,ms 20 (g3+1) 2 aA x7)] [(20,some (ar 65 (g3+1) 2 aA x7))] [] (rk hC [] [8,17] [(8,vI (wr (x2+1)))] [] [] ⟨(x7,wr (x2+1)),(g3+1),h,lS⟩)
 ·obtain rfl:=so h
  exact cV (rq hC [] [2,18] [(2,ms 20 g3 2 aA x1)] [] [] (qw (lk hC [.ren 2 20 0] [2] [(2,ms 0 1 2 aA x1)] [(0,some (ar 65 1 2 aA x1)),(20,none)] [(0,true)]) (qr eW)))
theorem aCK{nest}{r}(h:lN n nest=some r):VQ G 175 [] [vM aC nest] (ms 0 1 2 aC r) [ar 58 1 2 aC r]:=by
 unfold lN at h
 refine vq aO Tryz.func175 rfl fun w X β0 hC hg=> ?_
 refine rq hC [] [2] [] [] [] (rq hC [] [3] [(3,V.t T.nilS)] [] [] (qs (rq hC [oN aC nest] [6,7,8] [(6,vM aC nest),(7,vI (nest.length:Int)),(8,vI 0)] [] [] (qb (qw (lk hC [.grow 3 20 58] [3] [(3,ms 20 1 2 aC [])] [(20,some (ar 58 1 2 aC []))] [(20,true)]) ?_)))))
 refine bD (γ:=Nat) h (fun x_ g_=>aZ [(3,ms 20 g_ 2 aC x_.1),(6,vM aC nest),(7,vI (nest.length:Int)),(8,vI x_.2)] [(20,ar 58 g_ 2 aC x_.1)] [20]) 1 (lS) ?_
 rintro again4 ⟨x1,x2⟩ g3 h
 refine rq hC [] [9] [(9,vB (decide (x2<(nest.length:Int))))] [] [] (qs (aS h (fun c1 h=> ?_) (fun c1 h=> ?_)))
 ·refine qk (qs (qb ?_))
  obtain⟨x5,hx5,h⟩:=bd h
  refine rq hC [oR aC hx5,.z (.nat 21)] [5,10,11] [(5,V.ref 21 0)] [(21,some (E.cells (yN x5)))] [(21,true)] ?_
  obtain⟨x6,hx6,x7,hx7,x8,hx8,h⟩:=lW h
  exact dk hC bF [oC [] [22] (kY G hx6),oC [] [23] (kY G hx7),.z (.at 4),.z (.fz 22 [15] []),.z (.at 4),.z (.fz 23 [18] []),.z (.int 0),oA (aP aC hx8),oQ (b6 (r:=aC) 2 dV x1),oQ (b6 (r:=aC) 2 dV [(⟨x6,x7⟩:Loop)])] [3,12,13,14,15,16,17,18,19,20,21] [(3,ms 20 (g3+1) 2 aC x8)] [(22,none),(23,none),(20,some (ar 58 (g3+1) 2 aC x8))] [(22,true),(23,true)] (rk hC [] [8,22] [(8,vI (wr (x2+1)))] [] [] ⟨(x8,wr (x2+1)),(g3+1),h,lS⟩)
 ·obtain rfl:=so h
  exact cV (rq hC [] [2,23] [(2,ms 20 g3 2 aC x1)] [] [] (qw (lk hC [.ren 2 20 0] [2] [(2,ms 0 1 2 aC x1)] [(0,some (ar 58 1 2 aC x1)),(20,none)] [(0,true)]) (qr eW)))
theorem aCJ{p}{r}(h:kC n p=some r):VQ G 130 [] [V.agg (aAg p)] (V.agg [ms 0 1 2 aC r.nest,ms 1 1 9 aH r.body]) [ar 58 1 2 aC r.nest,ar 87 1 9 aH r.body]:=by
 unfold kC at h
 refine vq aO Tryz.func130 rfl fun w X β0 hC hg=> ?_
 refine rq hC [.z (.b (true)),.z (.nat 20)] [1,2] [(1,V.tp (pK p)),(2,V.ref 20 0)] [(20,sc [V.t T.nilS,V.t T.nilS])] [(20,true)] ?_
 obtain⟨x1,hx1,h⟩:=bd h
 refine rq hC [oC [] [21] (aCK G hx1),.z (.nat 22)] [3,6,7,8,9] [(3,V.ref 22 0)] [(21,some (ar 58 1 2 aC x1)),(22,sc [ms 21 1 2 aC x1,V.t T.nilS])] [(21,true),(22,true)] (qs (rq hC [oN aH p.body] (fr 10 4) [(11,vM aH p.body),(12,vI (p.body.length:Int)),(13,vI 0)] [] [] (qb (qw (lk hC [.growc 22 1 23 87] [] [] [(23,some (ar 87 1 9 aH [])),(22,sc [ms 21 1 2 aC x1,ms 23 1 9 aH []])] [(23,true)]) (bD (γ:=Nat) h (fun x_ g_=>aZ [(2,V.ref 20 0),(3,V.ref 22 0),(11,vM aH p.body),(12,vI (p.body.length:Int)),(13,vI x_.2)] [(20,E.cells [V.t T.nilS,V.t T.nilS]),(21,ar 58 1 2 aC x1),(22,E.cells [ms 21 1 2 aC x1,ms 23 g_ 9 aH x_.1]),(23,ar 87 g_ 9 aH x_.1)] [20,21,22,23]) 1 (lS) ?_)))))
 rintro again5 ⟨x2,x3⟩ g4 h
 refine rq hC [] [14] [(14,vB (decide (x3<(p.body.length:Int))))] [] [] (qs (aS h (fun c1 h=> ?_) (fun c1 h=> ?_)))
 ·refine qk (qs (qb ?_))
  obtain⟨x6,hx6,h⟩:=bd h
  refine rq hC [oR aH hx6,.z (.nat 24)] [5,15,16] [(5,V.ref 24 0)] [(24,some (E.cells (dR x6)))] [(24,true)] ?_
  obtain⟨x7,hx7,x8,hx8,h⟩:=cT h
  exact dk hC bF [oV (D6 G hx7),.z (.int 0),oA (aP aH hx8),oQ (b6 (r:=aH) 9 gM x2),oQ (b6 (r:=aH) 9 gM [x7])] (fr 17 7) [] [(23,some (ar 87 (g4+1) 9 aH x8)),(22,sc [ms 21 1 2 aC x1,ms 23 (g4+1) 9 aH x8])] [] (rk hC [] [13,24] [(13,vI (wr (x3+1)))] [] [] ⟨(x8,wr (x3+1)),(g4+1),h,lS⟩)
 ·obtain rfl:=so h
  exact cV (rq hC [] [25] [] [(20,sc [ms 21 1 2 aC x1,ms 23 g4 9 aH x2])] [] (qw (lk hC [.rn 21 0 [] [20,22]] [] [] [(20,sc [ms 0 1 2 aC x1,ms 23 g4 9 aH x2]),(22,sc [ms 0 1 2 aC x1,ms 23 g4 9 aH x2]),(21,none),(0,some (ar 58 1 2 aC x1))] [(0,true)]) (qw (lk hC [.rn 23 1 [] [20,22]] [] [] [(20,sc [ms 0 1 2 aC x1,ms 1 1 9 aH x2]),(22,sc [ms 0 1 2 aC x1,ms 1 1 9 aH x2]),(23,none),(1,some (ar 87 1 9 aH x2))] [(1,true)]) (qr eW))))
theorem F8{p}{r}(h:eC n p=some r):VQ G 81 [] [V.agg (bQ p)] (V.agg [ms 0 1 2 aI r.arrays,ms 1 1 2 aD r.parts]) [ar 77 1 2 aI r.arrays,ar 62 1 2 aD r.parts]:=by
 unfold eC at h
 refine vq aO Tryz.func81 rfl fun w X β0 hC hg=> ?_
 refine rq hC [.z (.b (true)),.z (.nat 20)] [1,2] [(1,V.tp (bZ p)),(2,V.ref 20 0)] [(20,sc [V.t T.nilS,V.t T.nilS])] [(20,true)] (rq hC [.z (.nat 21)] [3] [(3,V.ref 21 0)] [(21,sc [V.t T.nilS,V.t T.nilS])] [(21,true)] (qs (rq hC [oN aI p.arrays] (fr 8 4) [(9,vM aI p.arrays),(10,vI (p.arrays.length:Int)),(11,vI 0)] [] [] (qb (qw (lk hC [.growc 21 0 22 77] [] [] [(22,some (ar 77 1 2 aI [])),(21,sc [ms 22 1 2 aI [],V.t T.nilS])] [(22,true)]) ?_)))))
 refine bD (γ:=Nat) h (fun x_ g_=>aZ [(1,V.tp (bZ p)),(2,V.ref 20 0),(3,V.ref 21 0),(9,vM aI p.arrays),(10,vI (p.arrays.length:Int)),(11,vI x_.2)] [(20,E.cells [V.t T.nilS,V.t T.nilS]),(21,E.cells [ms 22 g_ 2 aI x_.1,V.t T.nilS]),(22,ar 77 g_ 2 aI x_.1)] [20,21,22]) 1 (lS) ?_
 rintro again4 ⟨x1,x2⟩ g3 h
 refine rq hC [] [12] [(12,vB (decide (x2<(p.arrays.length:Int))))] [] [] (qs (aS h (fun c1 h=> ?_) (fun c1 h=> ?_)))
 ·refine qk (qs (qb ?_))
  obtain⟨x5,hx5,h⟩:=bd h
  refine rq hC [oR aI hx5,.z (.nat 23)] [5,13,14] [(5,V.ref 23 0)] [(23,sc [vS x5.name,vM rI x5.dims])] [(23,true)] ?_
  obtain⟨x6,hx6,x7,hx7,h⟩:=cT h
  exact dk hC bF [oC [] [24] (G.clone x5.dims hx6),.z (.at 5),.z (.fz 24 [21] []),.z (.int 0),oA (aP aI hx7),oQ (b6 (r:=aI) 2 jG x1),oQ (b6 (r:=aI) 2 jG [(⟨x5.name,x6⟩:Arr)])] (fr 15 11) [] [(24,none),(22,some (ar 77 (g3+1) 2 aI x7)),(21,sc [ms 22 (g3+1) 2 aI x7,V.t T.nilS])] [(24,true)] (rk hC [] [11,26] [(11,vI (wr (x2+1)))] [] [] ⟨(x7,wr (x2+1)),(g3+1),h,lS⟩)
 ·refine cV (qs (rq hC [oN aD p.parts] (fr 27 4) [(28,vM aD p.parts),(29,vI (p.parts.length:Int)),(30,vI 0)] [] [] (qb (qw (lk hC [.growc 21 1 23 62] [] [] [(23,some (ar 62 1 2 aD [])),(21,sc [ms 22 g3 2 aI x1,ms 23 1 2 aD []])] [(23,true)]) (bD (γ:=Nat) h (fun x_ g_=>aZ [(2,V.ref 20 0),(3,V.ref 21 0),(28,vM aD p.parts),(29,vI (p.parts.length:Int)),(30,vI x_.2)] [(20,E.cells [V.t T.nilS,V.t T.nilS]),(21,E.cells [ms 22 g3 2 aI x1,ms 23 g_ 2 aD x_.1]),(22,ar 77 g3 2 aI x1),(23,ar 62 g_ 2 aD x_.1)] [20,21,22,23]) 1 (lS) ?_)))))
  rintro again11 ⟨x8,x9⟩ g10 h
  refine rq hC [] [31] [(31,vB (decide (x9<(p.parts.length:Int))))] [] [] (qs (aS h (fun c2 h=> ?_) (fun c2 h=> ?_)))
  ·refine qk (qs (qb ?_))
   obtain⟨x12,hx12,h⟩:=bd h
   refine rq hC [oR aD hx12,.z (.nat 24)] [7,32,33] [(7,V.ref 24 0)] [(24,some (E.cells (aAg x12)))] [(24,true)] ?_
   obtain⟨x13,hx13,x14,hx14,h⟩:=cT h
   exact dk hC bF [oC [] [25,26] (aCJ G hx13),.z (.at 4),.z (.fz 25 [37] []),.z (.at 4),.z (.fz 26 [37] []),.z (.int 0),oA (aP aD hx14),oQ (b6 (r:=aD) 2 fO x8),oQ (b6 (r:=aD) 2 fO [x13])] (fr 34 7) [] [(25,none),(26,none),(23,some (ar 62 (g10+1) 2 aD x14)),(21,sc [ms 22 g3 2 aI x1,ms 23 (g10+1) 2 aD x14])] [(25,true),(26,true)] (rk hC [] [30,41] [(30,vI (wr (x9+1)))] [] [] ⟨(x14,wr (x9+1)),(g10+1),h,lS⟩)
  ·obtain rfl:=so h
   exact cV (rq hC [] [42] [] [(20,sc [ms 22 g3 2 aI x1,ms 23 g10 2 aD x8])] [] (qw (lk hC [.rn 22 0 [] [20,21]] [] [] [(20,sc [ms 0 1 2 aI x1,ms 23 g10 2 aD x8]),(21,sc [ms 0 1 2 aI x1,ms 23 g10 2 aD x8]),(22,none),(0,some (ar 77 1 2 aI x1))] [(0,true)]) (qw (lk hC [.rn 23 1 [] [20,21]] [] [] [(20,sc [ms 0 1 2 aI x1,ms 1 1 2 aD x8]),(21,sc [ms 0 1 2 aI x1,ms 1 1 2 aD x8]),(23,none),(1,some (ar 62 1 2 aD x8))] [(1,true)]) (qr eW))))
theorem V3{nest}{r}(h:lN n nest=some r):VQ G 175 [] [vM aC nest] (ms 0 1 2 aC r) [E.tree cK 1 1 (List.map aC r) []]:=by
 unfold lN at h
 refine vq aO Tryz.func175 rfl fun w X β0 hC hg=> ?_
 refine rq hC [] [2] [] [] [] (rq hC [] [3] [(3,V.t T.nilS)] [] [] (qs (rq hC [oN aC nest] [6,7,8] [(6,vM aC nest),(7,vI (nest.length:Int)),(8,vI 0)] [] [] (qb (qw (lk hC [.grow 3 20 58,.tre 20 cK 1] [3] [(3,ms 20 1 2 aC [])] [(20,some (E.tree cK 1 1 (List.map aC []) []))] [(20,true)]) ?_)))))
 refine bD (γ:=Nat) h (fun x_ g_=>aZ [(3,ms 20 g_ 2 aC x_.1),(6,vM aC nest),(7,vI (nest.length:Int)),(8,vI x_.2)] [(20,E.tree cK 1 g_ (List.map aC x_.1) [])] [20]) 1 (lS) ?_
 rintro again4 ⟨x1,x2⟩ g3 h
 refine rq hC [] [9] [(9,vB (decide (x2<(nest.length:Int))))] [] [] (qs (aS h (fun c1 h=> ?_) (fun c1 h=> ?_)))
 ·refine qk (qs (qb ?_))
  obtain⟨x5,hx5,h⟩:=bd h
  refine rq hC [oR aC hx5,.z (.nat 21)] [5,10,11] [(5,V.ref 21 0)] [(21,some (E.cells (yN x5)))] [(21,true)] ?_
  obtain⟨x6,hx6,x7,hx7,x8,hx8,h⟩:=lW h
  exact dk hC bF [oC [] [22] (kY G hx6),oC [] [23] (kY G hx7),.z (.lt 24 cK 1),.z (.rows (List.map aC (x1++[(⟨[],[]⟩:Loop)]))),oQ (Eq.refl (ndOf cK 1)),oQ (aH5 aC (⟨[],[]⟩:Loop) hx8),oQ (b6 (r:=aC) 2 dV x1),oQ (b6 (r:=aC) 2 dV [(⟨[],[]⟩:Loop)])] [3,12,13,14,15,16,17,18,19,20,21] [(3,ms 20 (g3+1) 2 aC (x1++[(⟨[],[]⟩:Loop)]))] [(22,some (ar 65 1 2 aA x6)),(23,some (ar 65 1 2 aA x7)),(24,some (E.tree cK 1 1 (List.map aC [(⟨[],[]⟩:Loop)]) [(0,0,ms 22 1 2 aA x6),(0,1,ms 23 1 2 aA x7)])),(20,some (E.tree cK 1 (g3+1) (List.map aC (x1++[(⟨[],[]⟩:Loop)])) (n9 (List.map aC x1).length [(0,0,ms 22 1 2 aA x6),(0,1,ms 23 1 2 aA x7)])))] [(22,true),(23,true),(24,true)] (qw (qS hC [.tre 22 cK 3,.unf 20 22 (aC (⟨[],[]⟩:Loop)) (List.map aC (x1++[(⟨x6,[]⟩:Loop)])),.tre 23 cK 3,.unf 20 23 (aC (⟨x6,[]⟩:Loop)) (List.map aC x8),.len 3 (List.map aC x8).length] [3] [(3,ms 20 (g3+1) 2 aC x8)] [(22,none),(23,none),(20,some (E.tree cK 1 (g3+1) (List.map aC x8) []))] [] (a9 (Eq.refl (List.map aA x6).length) (Eq.refl cK) (aAE aC x1 (⟨[],[]⟩:Loop)) (aGL aC x1 (ph:=(⟨[],[]⟩:Loop)) (y:=(⟨x6,[]⟩:Loop)) rfl) (Eq.refl (List.map aA x7).length) (Eq.refl cK) (aAE aC x1 (⟨x6,[]⟩:Loop)) (aBR aC (ph:=(⟨x6,[]⟩:Loop)) hx8 rfl) (aG5 aC (⟨[],[]⟩:Loop) hx8)) (by kernel_rfl)) (rk hC [] [8,22] [(8,vI (wr (x2+1)))] [] [] ⟨(x8,wr (x2+1)),(g3+1),h,lS⟩))
 ·obtain rfl:=so h
  exact cV (rq hC [] [2,23] [(2,ms 20 g3 2 aC x1)] [] [] (qw (lk hC [.rn 20 0 [2,3] []] [2,3] [(2,ms 0 1 2 aC x1),(3,ms 0 1 2 aC x1)] [(20,none),(0,some (E.tree cK 1 1 (List.map aC x1) []))] [(0,true)]) (qr eW)))
theorem V2{p}{r}(h:kC n p=some r):VQ G 130 [] [V.agg (aAg p)] (V.agg [ms 0 1 2 aC r.nest,ms 1 1 9 aH r.body]) [E.tree cK 1 1 (List.map aC r.nest) [],ar 87 1 9 aH r.body]:=by
 unfold kC at h
 refine vq aO Tryz.func130 rfl fun w X β0 hC hg=> ?_
 refine rq hC [.z (.b (true)),.z (.nat 20)] [1,2] [(1,V.tp (pK p)),(2,V.ref 20 0)] [(20,sc [V.t T.nilS,V.t T.nilS])] [(20,true)] ?_
 obtain⟨x1,hx1,h⟩:=bd h
 refine rq hC [oC [] [21] (V3 G hx1),.z (.nat 22)] [3,6,7,8,9] [(3,V.ref 22 0)] [(21,some (E.tree cK 1 1 (List.map aC x1) [])),(22,sc [ms 21 1 2 aC x1,V.t T.nilS])] [(21,true),(22,true)] (qs (rq hC [oN aH p.body] (fr 10 4) [(11,vM aH p.body),(12,vI (p.body.length:Int)),(13,vI 0)] [] [] (qb (qw (lk hC [.growc 22 1 23 87] [] [] [(23,some (ar 87 1 9 aH [])),(22,sc [ms 21 1 2 aC x1,ms 23 1 9 aH []])] [(23,true)]) (bD (γ:=Nat) h (fun x_ g_=>aZ [(2,V.ref 20 0),(3,V.ref 22 0),(11,vM aH p.body),(12,vI (p.body.length:Int)),(13,vI x_.2)] [(20,E.cells [V.t T.nilS,V.t T.nilS]),(21,E.tree cK 1 1 (List.map aC x1) []),(22,E.cells [ms 21 1 2 aC x1,ms 23 g_ 9 aH x_.1]),(23,ar 87 g_ 9 aH x_.1)] [20,21,22,23]) 1 (lS) ?_)))))
 rintro again5 ⟨x2,x3⟩ g4 h
 refine rq hC [] [14] [(14,vB (decide (x3<(p.body.length:Int))))] [] [] (qs (aS h (fun c1 h=> ?_) (fun c1 h=> ?_)))
 ·refine qk (qs (qb ?_))
  obtain⟨x6,hx6,h⟩:=bd h
  refine rq hC [oR aH hx6,.z (.nat 24)] [5,15,16] [(5,V.ref 24 0)] [(24,some (E.cells (dR x6)))] [(24,true)] ?_
  obtain⟨x7,hx7,x8,hx8,h⟩:=cT h
  exact dk hC bF [oV (D6 G hx7),.z (.int 0),oA (aP aH hx8),oQ (b6 (r:=aH) 9 gM x2),oQ (b6 (r:=aH) 9 gM [x7])] (fr 17 7) [] [(23,some (ar 87 (g4+1) 9 aH x8)),(22,sc [ms 21 1 2 aC x1,ms 23 (g4+1) 9 aH x8])] [] (rk hC [] [13,24] [(13,vI (wr (x3+1)))] [] [] ⟨(x8,wr (x3+1)),(g4+1),h,lS⟩)
 ·obtain rfl:=so h
  exact cV (rq hC [] [25] [] [(20,sc [ms 21 1 2 aC x1,ms 23 g4 9 aH x2])] [] (qw (lk hC [.rn 21 0 [] [20,22]] [] [] [(20,sc [ms 0 1 2 aC x1,ms 23 g4 9 aH x2]),(22,sc [ms 0 1 2 aC x1,ms 23 g4 9 aH x2]),(21,none),(0,some (E.tree cK 1 1 (List.map aC x1) []))] [(0,true)]) (qw (lk hC [.rn 23 1 [] [20,22]] [] [] [(20,sc [ms 0 1 2 aC x1,ms 1 1 9 aH x2]),(22,sc [ms 0 1 2 aC x1,ms 1 1 9 aH x2]),(23,none),(1,some (ar 87 1 9 aH x2))] [(1,true)]) (qr eW))))
theorem yL{p}{r}(h:eC n p=some r):VQ G 81 [] [V.agg (bQ p)] (V.agg [ms 0 1 2 aI r.arrays,ms 1 1 2 aD r.parts]) [ar 77 1 2 aI r.arrays,E.tree cK 0 1 (List.map aD r.parts) []]:=by
 unfold eC at h
 refine vq aO Tryz.func81 rfl fun w X β0 hC hg=> ?_
 refine rq hC [.z (.b (true)),.z (.nat 20)] [1,2] [(1,V.tp (bZ p)),(2,V.ref 20 0)] [(20,sc [V.t T.nilS,V.t T.nilS])] [(20,true)] (rq hC [.z (.nat 21)] [3] [(3,V.ref 21 0)] [(21,sc [V.t T.nilS,V.t T.nilS])] [(21,true)] (qs (rq hC [oN aI p.arrays] (fr 8 4) [(9,vM aI p.arrays),(10,vI (p.arrays.length:Int)),(11,vI 0)] [] [] (qb (qw (lk hC [.growc 21 0 22 77] [] [] [(22,some (ar 77 1 2 aI [])),(21,sc [ms 22 1 2 aI [],V.t T.nilS])] [(22,true)]) ?_)))))
 refine bD (γ:=Nat) h (fun x_ g_=>aZ [(1,V.tp (bZ p)),(2,V.ref 20 0),(3,V.ref 21 0),(9,vM aI p.arrays),(10,vI (p.arrays.length:Int)),(11,vI x_.2)] [(20,E.cells [V.t T.nilS,V.t T.nilS]),(21,E.cells [ms 22 g_ 2 aI x_.1,V.t T.nilS]),(22,ar 77 g_ 2 aI x_.1)] [20,21,22]) 1 (lS) ?_
 rintro again4 ⟨x1,x2⟩ g3 h
 refine rq hC [] [12] [(12,vB (decide (x2<(p.arrays.length:Int))))] [] [] (qs (aS h (fun c1 h=> ?_) (fun c1 h=> ?_)))
 ·refine qk (qs (qb ?_))
  obtain⟨x5,hx5,h⟩:=bd h
  refine rq hC [oR aI hx5,.z (.nat 23)] [5,13,14] [(5,V.ref 23 0)] [(23,sc [vS x5.name,vM rI x5.dims])] [(23,true)] ?_
  obtain⟨x6,hx6,x7,hx7,h⟩:=cT h
  exact dk hC bF [oC [] [24] (G.clone x5.dims hx6),.z (.at 5),.z (.fz 24 [21] []),.z (.int 0),oA (aP aI hx7),oQ (b6 (r:=aI) 2 jG x1),oQ (b6 (r:=aI) 2 jG [(⟨x5.name,x6⟩:Arr)])] (fr 15 11) [] [(24,none),(22,some (ar 77 (g3+1) 2 aI x7)),(21,sc [ms 22 (g3+1) 2 aI x7,V.t T.nilS])] [(24,true)] (rk hC [] [11,26] [(11,vI (wr (x2+1)))] [] [] ⟨(x7,wr (x2+1)),(g3+1),h,lS⟩)
 ·refine cV (qs (rq hC [oN aD p.parts] (fr 27 4) [(28,vM aD p.parts),(29,vI (p.parts.length:Int)),(30,vI 0)] [] [] (qb (qw (lk hC [.growc 21 1 23 62,.tre 23 cK 0] [] [] [(23,some (E.tree cK 0 1 (List.map aD []) [])),(21,sc [ms 22 g3 2 aI x1,ms 23 1 2 aD []])] [(23,true)]) (bD (γ:=Nat) h (fun x_ g_=>aZ [(2,V.ref 20 0),(3,V.ref 21 0),(28,vM aD p.parts),(29,vI (p.parts.length:Int)),(30,vI x_.2)] [(20,E.cells [V.t T.nilS,V.t T.nilS]),(21,E.cells [ms 22 g3 2 aI x1,ms 23 g_ 2 aD x_.1]),(22,ar 77 g3 2 aI x1),(23,E.tree cK 0 g_ (List.map aD x_.1) [])] [20,21,22,23]) 1 (lS) ?_)))))
  rintro again11 ⟨x8,x9⟩ g10 h
  refine rq hC [] [31] [(31,vB (decide (x9<(p.parts.length:Int))))] [] [] (qs (aS h (fun c2 h=> ?_) (fun c2 h=> ?_)))
  ·refine qk (qs (qb ?_))
   obtain⟨x12,hx12,h⟩:=bd h
   refine rq hC [oR aD hx12,.z (.nat 24)] [7,32,33] [(7,V.ref 24 0)] [(24,some (E.cells (aAg x12)))] [(24,true)] ?_
   obtain⟨x13,hx13,x14,hx14,h⟩:=cT h
   exact dk hC bF [oC [] [25,26] (V2 G hx13),.z (.lt 27 cK 0),.z (.rows (List.map aD (x8++[(⟨[],[]⟩:Part)]))),oQ (Eq.refl (ndOf cK 0)),oQ (aH5 aD (⟨[],[]⟩:Part) hx14),oQ (b6 (r:=aD) 2 fO x8),oQ (b6 (r:=aD) 2 fO [(⟨[],[]⟩:Part)])] (fr 34 7) [] [(25,some (E.tree cK 1 1 (List.map aC x13.nest) [])),(26,some (ar 87 1 9 aH x13.body)),(27,some (E.tree cK 0 1 (List.map aD [(⟨[],[]⟩:Part)]) [(0,0,ms 25 1 2 aC x13.nest),(0,1,ms 26 1 9 aH x13.body)])),(23,some (E.tree cK 0 (g10+1) (List.map aD (x8++[(⟨[],[]⟩:Part)])) (n9 (List.map aD x8).length [(0,0,ms 25 1 2 aC x13.nest),(0,1,ms 26 1 9 aH x13.body)]))),(21,sc [ms 22 g3 2 aI x1,ms 23 (g10+1) 2 aD (x8++[(⟨[],[]⟩:Part)])])] [(25,true),(26,true),(27,true)] (qw (qS hC [.unf 23 25 (aD (⟨[],[]⟩:Part)) (List.map aD (x8++[(⟨x13.nest,[]⟩:Part)])),.tre 26 cK 2,.unf 23 26 (aD (⟨x13.nest,[]⟩:Part)) (List.map aD x14),.lenc 21 1 (List.map aD x14).length] [] [] [(25,none),(26,none),(23,some (E.tree cK 0 (g10+1) (List.map aD x14) [])),(21,sc [ms 22 g3 2 aI x1,ms 23 (g10+1) 2 aD x14])] [] (a9 (Eq.refl (List.map aC x13.nest).length) (Eq.refl cK) (aAE aD x8 (⟨[],[]⟩:Part)) (aGL aD x8 (ph:=(⟨[],[]⟩:Part)) (y:=(⟨x13.nest,[]⟩:Part)) rfl) (Eq.refl (List.map aH x13.body).length) (Eq.refl cK) (aAE aD x8 (⟨x13.nest,[]⟩:Part)) (aBR aD (ph:=(⟨x13.nest,[]⟩:Part)) hx14 rfl) (aG5 aD (⟨[],[]⟩:Part) hx14)) (by kernel_rfl)) (rk hC [] [30,41] [(30,vI (wr (x9+1)))] [] [] ⟨(x14,wr (x9+1)),(g10+1),h,lS⟩))
  ·obtain rfl:=so h
   exact cV (rq hC [] [42] [] [(20,sc [ms 22 g3 2 aI x1,ms 23 g10 2 aD x8])] [] (qw (lk hC [.rn 22 0 [] [20,21]] [] [] [(20,sc [ms 0 1 2 aI x1,ms 23 g10 2 aD x8]),(21,sc [ms 0 1 2 aI x1,ms 23 g10 2 aD x8]),(22,none),(0,some (ar 77 1 2 aI x1))] [(0,true)]) (qw (lk hC [.rn 23 1 [] [20,21]] [] [] [(20,sc [ms 0 1 2 aI x1,ms 1 1 2 aD x8]),(21,sc [ms 0 1 2 aI x1,ms 1 1 2 aD x8]),(23,none),(1,some (E.tree cK 0 1 (List.map aD x8) []))] [(1,true)]) (qr eW))))
theorem S3{a}{r}(h:nC n a=some r):PQ G 184 [V.agg [vS a.name,vM rI a.dims]] (vI r):=by
 unfold nC at h
 refine pq aO Tryz.func184 rfl fun w X hC=> ?_
 refine rq hC [.z (.b (true))] [1,2] [(1,V.tp [T.str a.name,T.sl (List.map rI a.dims)])] [] [] (rq hC [] [3] [(3,vI 1)] [] [] (qs (rq hC [oN rI a.dims] (fr 6 4) [(7,vM rI a.dims),(8,vI (a.dims.length:Int)),(9,vI 0)] [] [] (qb (kG h (fun x_=>aZ [(3,vI x_.1),(7,vM rI a.dims),(8,vI (a.dims.length:Int)),(9,vI x_.2)] [] []) lS ?_)))))
 rintro again3 ⟨x1,x2⟩ h
 refine rq hC [] [10] [(10,vB (decide (x2<(a.dims.length:Int))))] [] [] (qs (aS h (fun c1 h=> ?_) (fun c1 h=> ?_)))
 ·refine qk (qs (qb ?_))
  obtain⟨x4,hx4,h⟩:=bd h
  exact rq hC [oR rI hx4] [5,11,12] [(5,vI x4)] [] [] (rk hC [] [3,13,14,15] [(3,vI (wr (x1*x4)))] [] [] (rk hC [] [9,16] [(9,vI (wr (x2+1)))] [] [] (lE h)))
 ·obtain rfl:=so h
  exact cV (rq hC [] [2,17] [(2,vI x1)] [] [] (qr eR))
theorem gJ{a}{point}{r}(h:cN n a point=some r):PQ G 185 [V.agg (aK a),vM rI point] (vI r):=by
 unfold cN at h
 refine pq aO Tryz.func185 rfl fun w X hC=> ?_
 refine rq hC [.z (.b (true))] [2,4] [(2,V.tp (aY a))] [] [] (rq hC [] [5,8,9] [(5,vI a.const)] [] [] (qs (rq hC [oN rI point] [10,11,12] [(10,vM rI point),(11,vI (point.length:Int)),(12,vI 0)] [] [] (qb (kG h (fun x_=>aZ [(2,V.tp (aY a)),(5,vI x_.1),(10,vM rI point),(11,vI (point.length:Int)),(12,vI x_.2)] [] []) lS ?_)))))
 rintro again3 ⟨x1,x2⟩ h
 refine rq hC [] [13] [(13,vB (decide (x2<(point.length:Int))))] [] [] (qs (aS h (fun c1 h=> ?_) (fun c1 h=> ?_)))
 ·refine qk (qs (qb ?_))
  obtain⟨x4,hx4,h⟩:=bd h
  refine rq hC [oR rI hx4] [6,7,14,15,16] [(6,vI x2),(7,vI x4)] [] [] ?_
  obtain⟨x5,hx5,h⟩:=bd h
  exact rk hC [oR rI hx5] [5,17,18,19,20,21,22,23,24,25] [(5,vI (wr (x1+(wr (x5*x4)))))] [] [] (rk hC [] [12,26] [(12,vI (wr (x2+1)))] [] [] (lE h))
 ·obtain rfl:=so h
  exact cV (rq hC [] [4,27] [(4,vI x1)] [] [] (qr eR))
theorem bK{n_a0}{low}{high}{r}(h:cC n n_a0 low high=some r):PQ G 62 [vI n_a0,vI low,vI high] (vB r):=by
 unfold cC at h
 refine pq aO Tryz.func62 rfl fun w X hC=> ?_
 refine rq hC [] [6] [] [] [] (vj h (fun x_=>aZ [(6,vB x_)] [] []) (fun j1 h=> ?_) (fun x2 h=> ?_))
 ·
  refine aR h (fun c1 h=> ?_) (fun c1 h=> ?_)
  ·exact rk hC (rF 4 c1) (fr 6 9) [(6,vB false)] [] [] (lE h)
  ·exact rk hC (rT 4 c1) (fr 6 9) [(6,vB (decide (n_a0≤high)))] [] [] (lE h)
 ·obtain rfl:=so h
  exact qr eR
theorem fT{p}{a}{point}{r}(h:dO n p a point=some r):PQ G 142 [V.agg (bQ p),V.agg (cW a),vM rI point] (vI r):=by
 unfold dO at h
 refine pq aO Tryz.func142 rfl fun w X hC=> ?_
 refine rq hC [.z (.b (true)),.z (.b (true))] [3,4,6] [(3,V.tp (bZ p)),(4,V.tp (d7 a))] [] [] (rq hC [] [7] [(7,vI 0)] [] [] (qs (rq hC [oN aI p.arrays] (fr 14 4) [(15,vM aI p.arrays),(16,vI (p.arrays.length:Int)),(17,vI 0)] [] [] (qb (kG h (fun x_=>aZ [(2,vM rI point),(4,V.tp (d7 a)),(7,vI x_.1),(15,vM aI p.arrays),(16,vI (p.arrays.length:Int)),(17,vI x_.2)] [] []) lS ?_)))))
 rintro again3 ⟨x1,x2⟩ h
 refine rq hC [] [18] [(18,vB (decide (x2<(p.arrays.length:Int))))] [] [] (qs (aS h (fun c1 h=> ?_) (fun c1 h=> ?_)))
 ·refine qk (qs (qb ?_))
  obtain⟨x4,hx4,h⟩:=bd h
  refine rq hC [oR aI hx4,.z (.nat 20)] [9,19,20] [(9,V.ref 20 0)] [(20,sc [vS x4.name,vM rI x4.dims])] [(20,true)] (qs (rq hC [] (fr 21 5) [(25,vB (!decide (x4.name=a.array)))] [] [] (aS h (fun c2 h=> ?_) (fun c2 h=> ?_))))
  ·obtain⟨x5,hx5,h⟩:=bd h
   exact rq hC [oV (S3 G hx5)] [7,26,27,28,29] [(7,vI (wr (x1+x5)))] [] [] (cV (rk hC [] [17,70] [(17,vI (wr (x2+1)))] [] [] (lE h)))
  ·refine qk (qs (rq hC [oN aA a.subs,oN rI x4.dims] (fr 30 7) [(36,vB (!decide ((a.subs.length:Int)=(x4.dims.length:Int))))] [] [] (aS h (fun c3 h=> ?_) (fun c3 h=> ?_))))
   ·obtain rfl:=so h
    exact rq hC [] [6] [(6,vI (-1))] [] [] (qr eR)
   ·refine qk (rq hC [] [10] [(10,vI 0)] [] [] (qs (rq hC [oN aA a.subs] (fr 37 4) [(38,vM aA a.subs),(39,vI (a.subs.length:Int)),(40,vI 0)] [] [] (qb (kG h (fun x_=>aZ [(2,vM rI point),(7,vI x1),(9,V.ref 20 0),(10,vI x_.1),(38,vM aA a.subs),(39,vI (a.subs.length:Int)),(40,vI x_.2)] [(20,E.cells [vS x4.name,vM rI x4.dims])] [20]) lS ?_)))))
    rintro again8 ⟨x6,x7⟩ h
    refine rq hC [] [41] [(41,vB (decide (x7<(a.subs.length:Int))))] [] [] (qs (aS h (fun c4 h=> ?_) (fun c4 h=> ?_)))
    ·refine qk (qs (qb ?_))
     obtain⟨x9,hx9,h⟩:=bd h
     refine rq hC [oR aA hx9,.z (.nat 21)] [11,12,42,43,44] [(11,vI x7),(12,V.ref 21 0)] [(21,some (E.cells (aK x9)))] [(21,true)] ?_
     obtain⟨x10,hx10,h⟩:=bd h
     refine rq hC [oV (gJ G hx10)] [13,45,46,47] [(13,vI x10)] [] [] (qs ?_)
     obtain⟨x11,hx11,x12,hx12,h⟩:=cT h
     refine rq hC [oR rI hx11,oV (bK G hx12)] (fr 48 9) [(56,vB (!x12))] [] [] (aS h (fun c5 h=> ?_) (fun c5 h=> ?_))
     ·obtain rfl:=so h
      exact rq hC [] [6] [(6,vI (-1))] [] [] (qr eR)
     ·exact qk (rk hC [oR rI hx11] [10,57,58,59,60,61,62,63,64,65] [(10,vI (wr ((wr (x6*x11))+x10)))] [] [] (rk hC [] [40,66] [(40,vI (wr (x7+1)))] [] [] (lE h)))
    ·obtain rfl:=so h
     exact cV (rq hC [] [6,67,68,69] [(6,vI (wr (x1+x6)))] [] [] (qr eR))
 ·obtain rfl:=so h
  exact cV (rq hC [] [6] [(6,vI (-1))] [] [] (qr eR))
theorem tW(G:GS)(n:Nat)(a:Access)(c0__a1:Prog)(c1__a2:List Int){r:Bool}(h:dH n a c0__a1 c1__a2=some r):PQ G 172 [V.agg (cW a),V.tp (bZ c0__a1),V.tp [T.sl (List.map rI c1__a2)]] (vB r):=by
 unfold dH at h
 refine pq aO Tryz.func172 rfl fun w X hC=> ?_
 refine rq hC [.z (.b (true))] [3,4] [(3,V.tp (d7 a))] [] [] ?_
 obtain⟨x1,hx1,h⟩:=bd h
 obtain rfl:=so h
 exact rq hC [oV (fT G hx1)] (fr 4 6) [(4,vB (decide (x1<0)))] [] [] (qr eR)
theorem aAf(G:GS): ∀(n:Nat) (e:Expr) {r:(List Access)} (h:i_reads n e=some r),VQ G 141 [] [V.agg (eK e)] (ms 0 1 2 aT r) [ar 82 1 2 aT r]:=by
 intro n
 induction n with
 |zero=>intro e r h;rw [i_reads.eq_def] at h;cases h
 |succ n ih=>
  intro e r h
  rw [i_reads.eq_def] at h;dsimp only at h
  refine vq aO Tryz.func141 rfl fun w X β0 hC hg=> ?_
  refine rq hC [.z (.b (true))] [1,2] [(1,V.tp (gU e))] [] [] (qs (rq hC [] [6,7,8] [(8,vB (decide (e.kind=3)))] [] [] (aS h (fun c1 h=> ?_) (fun c1 h=> ?_))))
  ·obtain rfl:=so h
   exact rq hC [.z (.int 1),.z (.nat 20)] [2,9,10,11] [(2,ms 20 1 2 aT [e.read])] [(20,some (ar 82 1 2 aT [e.read]))] [(20,true)] (qw (lk hC [.ren 2 20 0] [2] [(2,ms 0 1 2 aT [e.read])] [(0,some (ar 82 1 2 aT [e.read])),(20,none)] [(0,true)]) (qr eW))
  ·refine qk (rq hC [] [3] [(3,V.t T.nilS)] [] [] (qs (rq hC [oN aL e.kids] (fr 12 4) [(13,vM aL e.kids),(14,vI (e.kids.length:Int)),(15,vI 0)] [] [] (qb (qw (lk hC [.grow 3 20 82] [3] [(3,ms 20 1 2 aT [])] [(20,some (ar 82 1 2 aT []))] [(20,true)]) ?_)))))
   refine bD (γ:=Nat) h (fun x_ g_=>aZ [(3,ms 20 g_ 2 aT x_.1),(13,vM aL e.kids),(14,vI (e.kids.length:Int)),(15,vI x_.2)] [(20,ar 82 g_ 2 aT x_.1)] [20]) 1 (lS) ?_
   rintro again4 ⟨x1,x2⟩ g3 h
   refine rq hC [] [16] [(16,vB (decide (x2<(e.kids.length:Int))))] [] [] (qs (aS h (fun c2 h=> ?_) (fun c2 h=> ?_)))
   ·refine qk (qs (qb ?_))
    obtain⟨x5,hx5,h⟩:=bd h
    refine rq hC [.z (.row (fP x5)),.z (.nat 21),oQ (iO aL hx5 (d5 x5))] [5,17,18] [(5,V.ref 21 0)] [(21,some (E.cells (eK x5)))] [(21,true)] ?_
    obtain⟨x6,hx6,x7,hx7,h⟩:=cT h
    exact rk hC [oC [] [22] (ih x5 hx6),.z (.at 2),.z (.fz 22 [21] []),oA (aP aT hx7),oQ (b6 (r:=aT) 2 oU x1),oQ (b6 (r:=aT) 2 oU x6)] [3,19,20,21,22] [(3,ms 20 (g3+1) 2 aT x7)] [(22,none),(20,some (ar 82 (g3+1) 2 aT x7))] [(22,true)] (rk hC [] [15,23] [(15,vI (wr (x2+1)))] [] [] ⟨(x7,wr (x2+1)),(g3+1),h,lS⟩)
   ·obtain rfl:=so h
    exact cV (rq hC [] [2,24] [(2,ms 20 g3 2 aT x1)] [] [] (qw (lk hC [.ren 2 20 0] [2] [(2,ms 0 1 2 aT x1)] [(0,some (ar 82 1 2 aT x1)),(20,none)] [(0,true)]) (qr eW)))
theorem qL(G:GS)(n:Nat)(s:List Access)(fF:FuncId)(fC0:List T)(fC1:List T)(f:Access→Option Bool)(hf: ∀(q0:Access) r,f q0=some r→PQ G fF [V.agg (cW q0),V.tp fC0,V.tp fC1] (vB r)){r:Int}(h:fZ n s f=some r):PQ G 227 [vM aT s,V.fn fF [V.tp fC0,V.tp fC1]] (vI r):=by
 unfold fZ at h
 refine pq aO Tryz.func227 rfl fun w X hC=> ?_
 refine rq hC [] [4] [] [] [] (qs (rq hC [oN aT s] [6,7,8] [(7,vI (s.length:Int)),(8,vI 0)] [] [] (qb (kG h (fun x_=>aZ [(0,vM aT s),(1,V.fn fF [V.tp fC0,V.tp fC1]),(7,vI (s.length:Int)),(8,vI x_)] [] []) lS ?_))))
 rintro again2 x1 h
 refine rq hC [] [9] [(9,vB (decide (x1<(s.length:Int))))] [] [] (qs (aS h (fun c1 h=> ?_) (fun c1 h=> ?_)))
 ·refine qk (qs (qb (rq hC [] [5,10] [(5,vI x1)] [] [] ?_)))
  obtain⟨x3,hx3,x4,hx4,h⟩:=cT h
  refine rq hC [oR aT hx3,oV (hf x3 _ hx4)] (fr 11 6) [(16,vB x4)] [] [] (aS h (fun c2 h=> ?_) (fun c2 h=> ?_))
  ·obtain rfl:=so h
   exact rq hC [] [4,17] [(4,vI x1)] [] [] (qr eR)
  ·exact qk (rk hC [] [8,18] [(8,vI (wr (x1+1)))] [] [] (lE h))
 ·obtain rfl:=so h
  exact cV (rq hC [] [4] [(4,vI (-1))] [] [] (qr eR))
theorem oH(G:GS)(n:Nat)(s:List Access)(fF:FuncId)(fC0:List T)(fC1:List T)(f:Access→Option Bool)(hf: ∀(q0:Access) r,f q0=some r→PQ G fF [V.agg (cW q0),V.tp fC0,V.tp fC1] (vB r)){r:Bool}(h:dD n s f=some r):PQ G 171 [vM aT s,V.fn fF [V.tp fC0,V.tp fC1]] (vB r):=by
 unfold dD at h
 refine pq aO Tryz.func171 rfl fun w X hC=> ?_
 refine rq hC [] [4] [] [] [] ?_
 obtain⟨x1,hx1,h⟩:=bd h
 obtain rfl:=so h
 exact rq hC [oV (qL G n s fF fC0 fC1 f hf hx1)] (fr 4 5) [(4,vB (decide ((0:Int)≤x1)))] [] [] (qr eR)
theorem wQ{p}{s}{point}{r}(h:fR n p s point=some r):PQ G 128 [V.agg (bQ p),V.agg (dR s),vM rI point] (vB r):=by
 unfold fR at h
 refine pq aO Tryz.func128 rfl fun w X hC=> ?_
 refine rq hC [.z (.b (true)),.z (.b (true)),.z (.b (true))] (fr 3 4) [(3,V.tp (bZ p)),(4,V.tp (oO s)),(5,V.tp [T.sl (List.map rI point)])] [] [] (vj h (fun x_=>aZ [(6,vB x_)] [] []) (fun j1 h=> ?_) (fun x5 h=> ?_))
 ·
  obtain⟨x2,hx2,h⟩:=bd h
  refine aR h (fun c1 h=> ?_) (fun c1 h=> ?_)
  ·exact rk hC ([oV (fT G hx2)]++rF 7 c1) (fr 6 15) [(6,vB false)] [] [] (lE h)
  ·obtain⟨x3,hx3,x4,hx4,h⟩:=cT h
   exact rk hC ([oV (fT G hx2)]++rT 3 c1++[oC [] [20] (aAf G n s.value hx3),oT c1,oT c1,.z (.b (true)),oV (oH G n x3 172 (bZ p) [T.sl (List.map rI point)] (fun q0=>dH n q0 p point) (fun q0 r h=>tW G n q0 p point h) hx4),oT c1,oT c1]) (fr 6 15) [(6,vB (!x4))] [(20,some (ar 82 1 2 aT x3))] [(20,true)] (lE h)
 ·obtain rfl:=so h
  exact qr eR
theorem fA{s}{r}(h:nN n s=some r):PQ G 162 [vS s] (vB r):=by
 unfold nN at h
 refine pq aO Tryz.func162 rfl fun w X hC=> ?_
 refine rq hC [] [2] [] [] [] (vj h (fun x_=>aZ [(2,vB x_)] [] []) (fun j1 h=> ?_) (fun x3 h=> ?_))
 ·
  refine aR h (fun c1 h=> ?_) (fun c1 h=> ?_)
  ·exact rk hC (rF 3 c1) (fr 2 8) [(2,vB false)] [] [] (lE h)
  ·obtain⟨x2,hx2,h⟩:=bd h
   exact rk hC [oT c1,oT c1,oV (G.contains [65,66,67,68] s x2 hx2),oT c1] (fr 2 8) [(2,vB x2)] [] [] (lE h)
 ·obtain rfl:=so h
  exact qr eR
theorem yJ(G:GS)(n:Nat)(s:List Int)(fF:FuncId)(f:Int→Option Bool)(hf: ∀(q0:Int) r,f q0=some r→PQ G fF [vI q0] (vB r)){r:Int}(h:jN n s f=some r):PQ G 143 [vM rI s,V.fn fF []] (vI r):=by
 unfold jN at h
 refine pq aO Tryz.func143 rfl fun w X hC=> ?_
 refine rq hC [] [4] [] [] [] (qs (rq hC [oN rI s] [6,7,8] [(7,vI (s.length:Int)),(8,vI 0)] [] [] (qb (kG h (fun x_=>aZ [(0,vM rI s),(1,V.fn fF []),(7,vI (s.length:Int)),(8,vI x_)] [] []) lS ?_))))
 rintro again2 x1 h
 refine rq hC [] [9] [(9,vB (decide (x1<(s.length:Int))))] [] [] (qs (aS h (fun c1 h=> ?_) (fun c1 h=> ?_)))
 ·refine qk (qs (qb (rq hC [] [5,10] [(5,vI x1)] [] [] ?_)))
  obtain⟨x3,hx3,x4,hx4,h⟩:=cT h
  refine rq hC [oR rI hx3,oV (hf x3 _ hx4)] (fr 11 6) [(16,vB x4)] [] [] (aS h (fun c2 h=> ?_) (fun c2 h=> ?_))
  ·obtain rfl:=so h
   exact rq hC [] [4,17] [(4,vI x1)] [] [] (qr eR)
  ·exact qk (rk hC [] [8,18] [(8,vI (wr (x1+1)))] [] [] (lE h))
 ·obtain rfl:=so h
  exact cV (rq hC [] [4] [(4,vI (-1))] [] [] (qr eR))
theorem e9(G:GS)(n:Nat)(s:List Int)(fF:FuncId)(f:Int→Option Bool)(hf: ∀(q0:Int) r,f q0=some r→PQ G fF [vI q0] (vB r)){r:Bool}(h:bV n s f=some r):PQ G 163 [vM rI s,V.fn fF []] (vB r):=by
 unfold bV at h
 refine pq aO Tryz.func163 rfl fun w X hC=> ?_
 refine rq hC [] [4] [] [] [] ?_
 obtain⟨x1,hx1,h⟩:=bd h
 obtain rfl:=so h
 exact rq hC [oV (yJ G n s fF f hf hx1)] (fr 4 5) [(4,vB (decide ((0:Int)≤x1)))] [] [] (qr eR)
theorem tV(G:GS)(n:Nat)(n_a0:Int){r:Bool}(h:d9 n n_a0=some r):PQ G 164 [vI n_a0] (vB r):=by
 unfold d9 at h
 refine pq aO Tryz.func164 rfl fun w X hC=> ?_
 refine rq hC [] [2] [] [] [] ?_
 obtain⟨x1,hx1,h⟩:=bd h
 obtain rfl:=so h
 exact rq hC [oV (bK G hx1)] (fr 2 4) [(2,vB (!x1))] [] [] (qr eR)
theorem yK{list}{r}(h:n7 n list=some r):PQ G 122 [vM aI list] (vB r):=by
 unfold n7 at h
 refine pq aO Tryz.func122 rfl fun w X hC=> ?_
 refine rq hC [] [2] [] [] [] (qs (rq hC [oN aI list] [5,6,7] [(5,vM aI list),(6,vI (list.length:Int)),(7,vI 0)] [] [] (qb (kG h (fun x_=>aZ [(0,vM aI list),(5,vM aI list),(6,vI (list.length:Int)),(7,vI x_)] [] []) lS ?_))))
 rintro again2 x1 h
 refine rq hC [] [8] [(8,vB (decide (x1<(list.length:Int))))] [] [] (qs (aS h (fun c1 h=> ?_) (fun c1 h=> ?_)))
 ·refine qk (qs (qb ?_))
  obtain⟨x3,hx3,h⟩:=bd h
  refine rq hC [oR aI hx3,.z (.nat 20)] [3,4,9,10,11] [(3,vI x1),(4,V.ref 20 0)] [(20,sc [vS x3.name,vM rI x3.dims])] [(20,true)] (vj h (fun x_=>aZ [(0,vM aI list),(5,vM aI list),(6,vI (list.length:Int)),(7,vI x1),(42,vB x_)] [(20,E.cells [vS x3.name,vM rI x3.dims])] [20]) (fun j4 h=> ?_) (fun x11 h=> ?_))
  ·
   obtain⟨x5,hx5,h⟩:=bd h
   refine aR h (fun c2 h=> ?_) (fun c2 h=> ?_)
   ·refine aR h (fun c3 h=> ?_) (fun c3 h=> ?_)
    ·obtain⟨x6,hx6,h⟩:=bd h
     refine aR h (fun c4 h=> ?_) (fun c4 h=> ?_)
     ·obtain⟨x7,hx7,h⟩:=bd h
      exact dk hC bF ([oV (fA G hx5)]++rF 3 c2++rF 9 c3++[oF c2,oF c3,oF c2,eF,eF,eF,oN rI x3.dims,eF,oV (bK G hx6),eF,eF]++rF 3 c4++[oV (e9 G n x3.dims 164 (fun q0=>d9 n q0) (fun q0 r h=>tV G n q0 h) hx7),oF c4]) (fr 12 31) [(42,vB x7)] [] [] (lE h)
     ·exact dk hC bF ([oV (fA G hx5)]++rF 3 c2++rF 9 c3++[oF c2,oF c3,oF c2,eF,eF,eF,oN rI x3.dims,eF,oV (bK G hx6),eF,eF]++rT 4 c4) (fr 12 31) [(42,vB true)] [] [] (lE h)
    ·obtain⟨x8,hx8,h⟩:=bd h
     refine aR h (fun c5 h=> ?_) (fun c5 h=> ?_)
     ·obtain⟨x9,hx9,h⟩:=bd h
      refine aR h (fun c6 h=> ?_) (fun c6 h=> ?_)
      ·obtain⟨x10,hx10,h⟩:=bd h
       exact dk hC bF ([oV (fA G hx5)]++rF 3 c2++rT 4 c3++[oR aI hx8]++rT 5 c3++[oF c2,oT c3,oF c2]++rF 3 c5++[oN rI x3.dims,oF c5,oV (bK G hx9),oF c5,oF c5]++rF 3 c6++[oV (e9 G n x3.dims 164 (fun q0=>d9 n q0) (fun q0 r h=>tV G n q0 h) hx10),oF c6]) (fr 12 31) [(42,vB x10)] [] [] (lE h)
      ·exact dk hC bF ([oV (fA G hx5)]++rF 3 c2++rT 4 c3++[oR aI hx8]++rT 5 c3++[oF c2,oT c3,oF c2]++rF 3 c5++[oN rI x3.dims,oF c5,oV (bK G hx9),oF c5,oF c5]++rT 4 c6) (fr 12 31) [(42,vB true)] [] [] (lE h)
     ·exact dk hC bF ([oV (fA G hx5)]++rF 3 c2++rT 4 c3++[oR aI hx8]++rT 5 c3++[oF c2,oT c3,oF c2]++rT 6 c5++sT 4) (fr 12 31) [(42,vB true)] [] [] (lE h)
   ·exact dk hC bF ([oV (fA G hx5)]++rT 5 c2++sT 10) (fr 12 31) [(42,vB true)] [] [] (lE h)
  ·refine aS h (fun c7 h=> ?_) (fun c7 h=> ?_)
   ·obtain rfl:=so h
    exact rq hC [] [2] [(2,vB false)] [] [] (qr eR)
   ·exact qk (rk hC [] [7,43] [(7,vI (wr (x1+1)))] [] [] (lE h))
 ·obtain rfl:=so h
  exact cV (rq hC [oN aI list] [2,44,45,46] [(2,vB (decide ((list.length:Int)≤4)))] [] [] (qr eR))
theorem tR(G:GS)(n:Nat)(s:List Affine)(fF:FuncId)(f:Affine→Option Bool)(hf: ∀(q0:Affine) r,f q0=some r→PQ G fF [V.agg (aK q0)] (vB r)){r:Int}(h:dG n s f=some r):PQ G 201 [vM aA s,V.fn fF []] (vI r):=by
 unfold dG at h
 refine pq aO Tryz.func201 rfl fun w X hC=> ?_
 refine rq hC [] [4] [] [] [] (qs (rq hC [oN aA s] [6,7,8] [(7,vI (s.length:Int)),(8,vI 0)] [] [] (qb (kG h (fun x_=>aZ [(0,vM aA s),(1,V.fn fF []),(7,vI (s.length:Int)),(8,vI x_)] [] []) lS ?_))))
 rintro again2 x1 h
 refine rq hC [] [9] [(9,vB (decide (x1<(s.length:Int))))] [] [] (qs (aS h (fun c1 h=> ?_) (fun c1 h=> ?_)))
 ·refine qk (qs (qb (rq hC [] [5,10] [(5,vI x1)] [] [] ?_)))
  obtain⟨x3,hx3,x4,hx4,h⟩:=cT h
  refine rq hC [oR aA hx3,oV (hf x3 _ hx4)] (fr 11 6) [(16,vB x4)] [] [] (aS h (fun c2 h=> ?_) (fun c2 h=> ?_))
  ·obtain rfl:=so h
   exact rq hC [] [4,17] [(4,vI x1)] [] [] (qr eR)
  ·exact qk (rk hC [] [8,18] [(8,vI (wr (x1+1)))] [] [] (lE h))
 ·obtain rfl:=so h
  exact cV (rq hC [] [4] [(4,vI (-1))] [] [] (qr eR))
theorem qM(G:GS)(n:Nat)(s:List Affine)(fF:FuncId)(f:Affine→Option Bool)(hf: ∀(q0:Affine) r,f q0=some r→PQ G fF [V.agg (aK q0)] (vB r)){r:Bool}(h:bO n s f=some r):PQ G 150 [vM aA s,V.fn fF []] (vB r):=by
 unfold bO at h
 refine pq aO Tryz.func150 rfl fun w X hC=> ?_
 refine rq hC [] [4] [] [] [] ?_
 obtain⟨x1,hx1,h⟩:=bd h
 obtain rfl:=so h
 exact rq hC [oV (tR G n s fF f hf hx1)] (fr 4 5) [(4,vB (decide ((0:Int)≤x1)))] [] [] (qr eR)
theorem fU{a}{r}(h:dP n a=some r):PQ G 152 [V.agg (aK a)] (vI r):=by
 unfold dP at h
 refine pq aO Tryz.func152 rfl fun w X hC=> ?_
 refine rq hC [.z (.b (true))] [1,2] [(1,V.tp (aY a))] [] [] (rq hC [oN rI a.coefs] (fr 3 4) [(3,vI (a.coefs.length:Int))] [] [] (qs (qb (kG h (fun x_=>aZ [(1,V.tp (aY a)),(3,vI x_)] [] []) lS ?_))))
 rintro again2 x1 h
 refine qs (vj h (fun x_=>aZ [(1,V.tp (aY a)),(3,vI x1),(17,vB x_)] [] []) (fun j3 h=> ?_) (fun x5 h=> ?_))
 ·
  refine aR h (fun c1 h=> ?_) (fun c1 h=> ?_)
  ·exact rk hC (rF 8 c1) (fr 7 11) [(17,vB false)] [] [] (lE h)
  ·obtain⟨x4,hx4,h⟩:=bd h
   exact rk hC (rT 5 c1++[oR rI hx4]++rT 3 c1) (fr 7 11) [(17,vB (decide (x4=0)))] [] [] (lE h)
 ·refine aS h (fun c2 h=> ?_) (fun c2 h=> ?_)
  ·exact qk (qb (rk hC [] [3,18,19] [(3,vI (wr (x1-1)))] [] [] (lE h)))
  ·obtain rfl:=so h
   exact cV (rq hC [] [2,20] [(2,vI x1)] [] [] (qr eR))
theorem D7{n_a0}{r}(h:uM n n_a0=some r):PQ G 261 [vI n_a0] (vB r):=by
 unfold uM at h
 refine pq aO Tryz.func261 rfl fun w X hC=> ?_
 refine rq hC [] [2] [] [] [] ?_
 obtain⟨x1,hx1,h⟩:=bd h
 obtain rfl:=so h
 exact rq hC [oV (bK G hx1)] [2,3,4] [(2,vB x1)] [] [] (qr eR)
theorem yM(G:GS)(n:Nat)(c:Int){r:Bool}(h:eS n c=some r):PQ G 262 [vI c] (vB r):=by
 unfold eS at h
 refine pq aO Tryz.func262 rfl fun w X hC=> ?_
 refine rq hC [] [2] [] [] [] ?_
 obtain⟨x1,hx1,h⟩:=bd h
 obtain rfl:=so h
 exact rq hC [oV (bK G hx1)] (fr 2 4) [(2,vB (!x1))] [] [] (qr eR)
theorem dZ{a}{r}(h:fJ n a=some r):PQ G 223 [V.agg (aK a)] (vB r):=by
 unfold fJ at h
 refine pq aO Tryz.func223 rfl fun w X hC=> ?_
 refine rq hC [.z (.b (true))] [1,2] [(1,V.tp (aY a))] [] [] (vj h (fun x_=>aZ [(2,vB x_)] [] []) (fun j1 h=> ?_) (fun x4 h=> ?_))
 ·
  refine aR h (fun c1 h=> ?_) (fun c1 h=> ?_)
  ·exact rk hC ([oN rI a.coefs]++rF 4 c1++sF 5) (fr 2 16) [(2,vB false)] [] [] (lE h)
  ·obtain⟨x2,hx2,h⟩:=bd h
   refine aR h (fun c2 h=> ?_) (fun c2 h=> ?_)
   ·exact rk hC ([oN rI a.coefs]++rT 3 c1++[oV (D7 G hx2),oT c1]++rF 5 c2) (fr 2 16) [(2,vB false)] [] [] (lE h)
   ·obtain⟨x3,hx3,h⟩:=bd h
    exact rk hC ([oN rI a.coefs]++rT 3 c1++[oV (D7 G hx2),oT c1]++rT 3 c2++[oV (e9 G n a.coefs 262 (fun q0=>eS n q0) (fun q0 r h=>yM G n q0 h) hx3),oT c2,oT c2]) (fr 2 16) [(2,vB (!x3))] [] [] (lE h)
 ·obtain rfl:=so h
  exact qr eR
theorem R6(G:GS)(n:Nat)(a:Affine)(c0__a1:Int){r:Bool}(h:f0 n a c0__a1=some r):PQ G 260 [V.agg (aK a),V.tp [T.int .i64 c0__a1]] (vB r):=by
 unfold f0 at h
 refine pq aO Tryz.func260 rfl fun w X hC=> ?_
 refine rq hC [.z (.b (true))] [2,3] [(2,V.tp (aY a))] [] [] (vj h (fun x_=>aZ [(3,vB x_)] [] []) (fun j1 h=> ?_) (fun x4 h=> ?_))
 ·
  obtain⟨x2,hx2,h⟩:=bd h
  refine aR h (fun c1 h=> ?_) (fun c1 h=> ?_)
  ·obtain⟨x3,hx3,h⟩:=bd h
   exact dk hC bF ([oV (dZ G hx2),oF c1,oF c1,oV (fU G hx3)]++rF 3 c1) (fr 3 10) [(3,vB (decide (c0__a1<x3)))] [] [] (lE h)
  ·exact dk hC bF ([oV (dZ G hx2)]++rT 5 c1) (fr 3 10) [(3,vB true)] [] [] (lE h)
 ·obtain rfl:=so h
  exact qr eR
theorem qK(G:GS)(n:Nat)(s:List Affine)(fF:FuncId)(fC0:List T)(f:Affine→Option Bool)(hf: ∀(q0:Affine) r,f q0=some r→PQ G fF [V.agg (aK q0),V.tp fC0] (vB r)){r:Int}(h:dG n s f=some r):PQ G 201 [vM aA s,V.fn fF [V.tp fC0]] (vI r):=by
 unfold dG at h
 refine pq aO Tryz.func201 rfl fun w X hC=> ?_
 refine rq hC [] [4] [] [] [] (qs (rq hC [oN aA s] [6,7,8] [(7,vI (s.length:Int)),(8,vI 0)] [] [] (qb (kG h (fun x_=>aZ [(0,vM aA s),(1,V.fn fF [V.tp fC0]),(7,vI (s.length:Int)),(8,vI x_)] [] []) lS ?_))))
 rintro again2 x1 h
 refine rq hC [] [9] [(9,vB (decide (x1<(s.length:Int))))] [] [] (qs (aS h (fun c1 h=> ?_) (fun c1 h=> ?_)))
 ·refine qk (qs (qb (rq hC [] [5,10] [(5,vI x1)] [] [] ?_)))
  obtain⟨x3,hx3,x4,hx4,h⟩:=cT h
  refine rq hC [oR aA hx3,oV (hf x3 _ hx4)] (fr 11 6) [(16,vB x4)] [] [] (aS h (fun c2 h=> ?_) (fun c2 h=> ?_))
  ·obtain rfl:=so h
   exact rq hC [] [4,17] [(4,vI x1)] [] [] (qr eR)
  ·exact qk (rk hC [] [8,18] [(8,vI (wr (x1+1)))] [] [] (lE h))
 ·obtain rfl:=so h
  exact cV (rq hC [] [4] [(4,vI (-1))] [] [] (qr eR))
theorem iJ(G:GS)(n:Nat)(s:List Affine)(fF:FuncId)(fC0:List T)(f:Affine→Option Bool)(hf: ∀(q0:Affine) r,f q0=some r→PQ G fF [V.agg (aK q0),V.tp fC0] (vB r)){r:Bool}(h:bO n s f=some r):PQ G 150 [vM aA s,V.fn fF [V.tp fC0]] (vB r):=by
 unfold bO at h
 refine pq aO Tryz.func150 rfl fun w X hC=> ?_
 refine rq hC [] [4] [] [] [] ?_
 obtain⟨x1,hx1,h⟩:=bd h
 obtain rfl:=so h
 exact rq hC [oV (qK G n s fF fC0 f hf hx1)] (fr 4 5) [(4,vB (decide ((0:Int)≤x1)))] [] [] (qr eR)
theorem rU{list}{depth}{r}(h:lP n list depth=some r):PQ G 220 [vM aA list,vI depth] (vB r):=by
 unfold lP at h
 refine pq aO Tryz.func220 rfl fun w X hC=> ?_
 refine rq hC [.z (.b (true))] [3,4] [(3,V.tp [T.int .i64 depth])] [] [] (vj h (fun x_=>aZ [(4,vB x_)] [] []) (fun j1 h=> ?_) (fun x4 h=> ?_))
 ·
  obtain⟨x2,hx2,h⟩:=bd h
  refine aR h (fun c1 h=> ?_) (fun c1 h=> ?_)
  ·exact rk hC ([oN aA list,oV (bK G hx2)]++rF 5 c1) (fr 4 10) [(4,vB false)] [] [] (lE h)
  ·obtain⟨x3,hx3,h⟩:=bd h
   exact rk hC ([oN aA list,oV (bK G hx2)]++rT 3 c1++[oV (iJ G n list 260 [T.int .i64 depth] (fun q0=>f0 n q0 depth) (fun q0 r h=>R6 G n q0 depth h) hx3),oT c1,oT c1]) (fr 4 10) [(4,vB (!x3))] [] [] (lE h)
 ·obtain rfl:=so h
  exact qr eR
theorem V9{nest}{r}(h:mG n nest=some r):PQ G 165 [vM aC nest] (vB r):=by
 unfold mG at h
 refine pq aO Tryz.func165 rfl fun w X hC=> ?_
 refine rq hC [] [2] [] [] [] (qs (rq hC [oN aC nest] [5,6,7] [(5,vM aC nest),(6,vI (nest.length:Int)),(7,vI 0)] [] [] (qb (kG h (fun x_=>aZ [(0,vM aC nest),(5,vM aC nest),(6,vI (nest.length:Int)),(7,vI x_)] [] []) lS ?_))))
 rintro again2 x1 h
 refine rq hC [] [8] [(8,vB (decide (x1<(nest.length:Int))))] [] [] (qs (aS h (fun c1 h=> ?_) (fun c1 h=> ?_)))
 ·refine qk (qs (qb ?_))
  obtain⟨x3,hx3,h⟩:=bd h
  refine rq hC [oR aC hx3,.z (.nat 20)] [3,4,9,10,11] [(3,vI x1),(4,V.ref 20 0)] [(20,some (E.cells (yN x3)))] [(20,true)] (vj h (fun x_=>aZ [(0,vM aC nest),(5,vM aC nest),(6,vI (nest.length:Int)),(7,vI x1),(23,vB x_)] [(20,E.cells (yN x3))] [20]) (fun j4 h=> ?_) (fun x7 h=> ?_))
  ·
   obtain⟨x5,hx5,h⟩:=bd h
   refine aR h (fun c2 h=> ?_) (fun c2 h=> ?_)
   ·obtain⟨x6,hx6,h⟩:=bd h
    exact rk hC ([oV (rU G hx5)]++rF 4 c2++[oV (rU G hx6),oF c2,oF c2]) (fr 12 12) [(23,vB (!x6))] [] [] (lE h)
   ·exact rk hC ([oV (rU G hx5)]++rT 6 c2) (fr 12 12) [(23,vB true)] [] [] (lE h)
  ·refine aS h (fun c3 h=> ?_) (fun c3 h=> ?_)
   ·obtain rfl:=so h
    exact rq hC [] [2] [(2,vB false)] [] [] (qr eR)
   ·exact qk (rk hC [] [7,24] [(7,vI (wr (x1+1)))] [] [] (lE h))
 ·obtain rfl:=so h
  exact cV (rq hC [oN aC nest] [2,25,26,27] [(2,vB (decide ((nest.length:Int)≤4)))] [] [] (qr eR))
theorem W0{l}{point}{r}(h:mH n l point=some r):PQ G 221 [V.agg (yN l),vM rI point] (V.tup [vI r.1,vI r.2]):=by
 unfold mH at h
 refine pq aO Tryz.func221 rfl fun w X hC=> ?_
 refine rq hC [.z (.b (true))] [2,4,5] [(2,V.tp (wY l))] [] [] (qs ?_)
 obtain⟨x1,hx1,x2,hx2,x3,hx3,h⟩:=lW h
 obtain⟨x4,hx4,h⟩:=bd h
 refine dk hC bF [oR aA hx1,oV (gJ G hx2),oR aA hx3,oV (gJ G hx4)] [6,7,12,13,14,15,16,17,18,19,20,21,22,23] [(6,vI x2),(7,vI x4)] [] [] (qs (rq hC [oN aA l.lo] (fr 24 4) [(25,vM aA l.lo),(26,vI (l.lo.length:Int)),(27,vI 0)] [] [] (qb (kG h (fun x_=>aZ [(1,vM rI point),(2,V.tp (wY l)),(6,vI x_.1),(7,vI x4),(25,vM aA l.lo),(26,vI (l.lo.length:Int)),(27,vI x_.2)] [] []) lS ?_))))
 rintro again7 ⟨x5,x6⟩ h
 refine rq hC [] [28] [(28,vB (decide (x6<(l.lo.length:Int))))] [] [] (qs (aS h (fun c1 h=> ?_) (fun c1 h=> ?_)))
 ·refine qk (qs (qb ?_))
  obtain⟨x8,hx8,h⟩:=bd h
  refine rq hC [oR aA hx8,.z (.nat 20)] [9,29,30] [(9,V.ref 20 0)] [(20,some (E.cells (aK x8)))] [(20,true)] ?_
  obtain⟨x9,hx9,h⟩:=bd h
  exact rk hC [oV (gJ G hx9)] [6,31,32,33,34,35] [(6,vI (max x5 x9))] [] [] (rk hC [] [27,36] [(27,vI (wr (x6+1)))] [] [] (lE h))
 ·refine cV (qs (rq hC [oN aA l.hi] (fr 37 4) [(38,vM aA l.hi),(39,vI (l.hi.length:Int)),(40,vI 0)] [] [] (qb (kG h (fun x_=>aZ [(1,vM rI point),(6,vI x5),(7,vI x_.1),(38,vM aA l.hi),(39,vI (l.hi.length:Int)),(40,vI x_.2)] [] []) lS ?_))))
  rintro again12 ⟨x10,x11⟩ h
  refine rq hC [] [41] [(41,vB (decide (x11<(l.hi.length:Int))))] [] [] (qs (aS h (fun c2 h=> ?_) (fun c2 h=> ?_)))
  ·refine qk (qs (qb ?_))
   obtain⟨x13,hx13,h⟩:=bd h
   refine rq hC [oR aA hx13,.z (.nat 20)] [11,42,43] [(11,V.ref 20 0)] [(20,some (E.cells (aK x13)))] [(20,true)] ?_
   obtain⟨x14,hx14,h⟩:=bd h
   exact rk hC [oV (gJ G hx14)] [7,44,45,46,47,48] [(7,vI (min x10 x14))] [] [] (rk hC [] [40,49] [(40,vI (wr (x11+1)))] [] [] (lE h))
  ·obtain rfl:=so h
   exact cV (rq hC [] [4,5,50,51] [(4,vI x5),(5,vI x10)] [] [] (qr eR))
theorem A6(G:GS): ∀(n:Nat) (w_a0:Walking) (w_a0G2:Nat) (point:List Int) {r:Bool×Walking} (h:i_walking_walk n w_a0 point=some r),VQ G 166 [E.cells [vM aC w_a0.nest,vI w_a0.steps,ms 1 w_a0G2 1 (rL rI) w_a0.out],ar 33 w_a0G2 1 (rL rI) w_a0.out] [V.ref 0 0,vM rI point] (vB r.1) [E.cells [vM aC r.2.nest,vI r.2.steps,ms 1 (w_a0G2+1) 1 (rL rI) r.2.out],ar 33 (w_a0G2+1) 1 (rL rI) r.2.out]:=by
 intro n
 induction n with
 |zero=>intro w_a0 w_a0G2 point r h;rw [i_walking_walk.eq_def] at h;cases h
 |succ n ih=>
  intro w_a0 w_a0G2 point r h
  rw [i_walking_walk.eq_def] at h;dsimp only at h
  refine vq aO Tryz.func166 rfl fun w X β0 hC hg=> ?_
  refine rq hC [] [4] [] [] [] (qs (rq hC [oN rI point,oN aC w_a0.nest] (fr 8 8) [(15,vB (decide ((point.length:Int)=(w_a0.nest.length:Int))))] [] [] (aS h (fun c1 h=> ?_) (fun c1 h=> ?_))))
  ·refine qs ?_
   obtain⟨x1,hx1,x2,hx2,h⟩:=cT h
   obtain rfl:=so h
   exact dk hC bF [oC [] [20] (G.clone point hx1),.z (.at 5),.z (.fz 20 [22] []),.z (.int 0),oA (aP (rL rI) hx2),oQ (b6 (r:=(rL rI)) 1 (fun _=>rfl) w_a0.out),oQ (b6 (r:=(rL rI)) 1 (fun _=>rfl) [x1])] (fr 16 11) [] [(20,none),(1,some (ar 33 (w_a0G2+1) 1 (rL rI) x2)),(0,sc [vM aC w_a0.nest,vI w_a0.steps,ms 1 (w_a0G2+1) 1 (rL rI) x2])] [(20,true)] (rq hC [oN (rL rI) x2] [4,27,28,29,30,31,32] [(4,vB (decide ((x2.length:Int)≤120)))] [] [] (qw (dS 0 2 1 w_a0G2 (w_a0G2+1) 1 0 (List.map (rL rI) x2).length (e:= .arr 33 (w_a0G2+1) 1 (List.map (rL rI) x2)) (cs:=[vM aC w_a0.nest,vI w_a0.steps,ms 1 (w_a0G2+1) 1 (rL rI) x2]) rfl (by kernel_rfl) (by kernel_rfl) (by kernel_rfl) (by kernel_rfl) rfl rfl hg.2.1) (qr eW)))
  ·refine qk ?_
   obtain⟨x3,hx3,x4,hx4,h⟩:=cT h
   refine rq hC [oN rI point,oR aC hx3,oV (W0 G hx4)] [5,6,33,34,35,36,37,38,39,40,41,42,43,44,45] [(5,vI x4.1),(6,vI x4.2)] [] [] (qs (rq hC [] [7,46] [(7,vI x4.1)] [] [] (qb (bD (γ:=Nat) h (fun x_ g_=>aZ [(0,V.ref 0 0),(1,vM rI point),(6,vI x4.2),(7,vI x_.2.2.2)] [(0,E.cells [vM aC x_.1,vI x_.2.1,ms 1 g_ 1 (rL rI) x_.2.2.1]),(1,ar 33 g_ 1 (rL rI) x_.2.2.1)] [0,1]) w_a0G2 (lS) ?_))))
   rintro again10 ⟨x5,x6,x7,x8⟩ g9 h
   refine qs (rq hC [] [47,48,49] [(49,vB (decide (x8<x4.2)))] [] [] (aS h (fun c2 h=> ?_) (fun c2 h=> ?_)))
   ·refine qk (qs (qb (rq hC [] (fr 52 7) [] [(0,sc [vM aC x5,vI (wr (x6+1)),ms 1 g9 1 (rL rI) x7])] [] ?_)))
    obtain⟨j11,hj11,h⟩:=M4 h
    refine mO (γ:=Nat) (j:=j11) (r:=r) (fun x_ g_=>aZ [(0,V.ref 0 0),(1,vM rI point),(6,vI x4.2),(7,vI x8),(74,vB x_.2.2.2)] [(0,E.cells [vM aC x_.1,vI x_.2.1,ms 1 g_ 1 (rL rI) x_.2.2.1]),(1,ar 33 g_ 1 (rL rI) x_.2.2.1)] [0,1]) ?_ ?_
    ·
     refine aR h (fun c3 h=> ?_) (fun c3 h=> ?_)
     ·obtain⟨x12,hx12,x13,hx13,x14,hx14,h⟩:=lW h
      exact rk hC (rF 3 c3++[oC [] [20] (G.clone point hx12),oF c3,oF c3,.z (.int 0),oF c3,oA (aP rI hx13),.z (.at 3),.z (.fz 20 [71] []),oQ (b6 (r:=rI) 1 (fun _=>rfl) x12),oQ (b6 (r:=rI) 1 (fun _=>rfl) [x8]),oF c3,oC [0,1] [] (ih (⟨x5,wr (x6+1),x7⟩:Walking) g9 x13 hx14),oF c3,oF c3]) (fr 59 16) [(74,vB (!x14.1))] [(20,none),(1,some (ar 33 (g9+1) 1 (rL rI) x14.2.out)),(0,sc [vM aC x14.2.nest,vI x14.2.steps,ms 1 (g9+1) 1 (rL rI) x14.2.out])] [(20,true),(0,true),(1,true)] ⟨(x14.2.nest,x14.2.steps,x14.2.out, !x14.1),(g9+1),h,lS⟩
     ·exact rk hC (rT 9 c3) (fr 59 16) [(74,vB true)] [] [] ⟨(x5,wr (x6+1),x7,true),g9,h,lS⟩
    ·rintro⟨x15,x16,x17,x18⟩ g19 h
     subst hj11
     refine aS h (fun c4 h=> ?_) (fun c4 h=> ?_)
     ·obtain rfl:=so h
      exact rq hC [] [4] [(4,vB false)] [] [] (qw (dS 0 2 1 w_a0G2 g19 1 0 (List.map (rL rI) x17).length (e:= .arr 33 g19 1 (List.map (rL rI) x17)) (cs:=[vM aC x15,vI x16,ms 1 g19 1 (rL rI) x17]) rfl (by kernel_rfl) (by kernel_rfl) (by kernel_rfl) (by kernel_rfl) rfl rfl hg.2.1) (qr eW))
     ·exact qk (rk hC [] [7,50,51] [(7,vI (wr (x8+1)))] [] [] ⟨(x15,x16,x17,wr (x8+1)),g19,h,lS⟩)
   ·obtain rfl:=so h
    exact cV (rq hC [] [4] [(4,vB true)] [] [] (qw (dS 0 2 1 w_a0G2 g9 1 0 (List.map (rL rI) x7).length (e:= .arr 33 g9 1 (List.map (rL rI) x7)) (cs:=[vM aC x5,vI x6,ms 1 g9 1 (rL rI) x7]) rfl (by kernel_rfl) (by kernel_rfl) (by kernel_rfl) (by kernel_rfl) rfl rfl hg.2.1) (qr eW)))
theorem S1{nest}{r}(h:kT n nest=some r):VQ G 123 [] [vM aC nest] (V.tup [ms 0 1 1 (rL rI) r.1,vB r.2]) [ar 33 1 1 (rL rI) r.1]:=by
 unfold kT at h
 refine vq aO Tryz.func123 rfl fun w X β0 hC hg=> ?_
 refine rq hC [] [2,3] [] [] [] (qs ?_)
 obtain⟨x1,hx1,h⟩:=bd h
 refine rq hC [oV (V9 G hx1)] [5,6,7] [(7,vB (!x1))] [] [] (aS h (fun c1 h=> ?_) (fun c1 h=> ?_))
 ·obtain rfl:=so h
  exact rq hC [] [2,3] [(2,V.t T.nilS),(3,vB false)] [] [] (qw (lk hC [.grow 2 0 33] [2] [(2,ms 0 1 1 (rL rI) [])] [(0,some (ar 33 1 1 (rL rI) []))] [(0,true)]) (qr eW))
 ·refine qk (rq hC [.z (.nat 20)] [4,8,9,10] [(4,V.ref 20 0)] [(20,sc [vM aC nest,vI 0,V.t T.nilS])] [(20,true)] (qs ?_))
  obtain⟨x2,hx2,h⟩:=bd h
  refine rq hC [.z (.at 2),.z (.growc 20 2 21 33),oC [20,21] [] (A6 G n (⟨nest,0,[]⟩:Walking) 1 [] hx2)] [11,12,13] [(13,vB (!x2.1))] [(21,some (ar 33 2 1 (rL rI) x2.2.out)),(20,sc [vM aC x2.2.nest,vI x2.2.steps,ms 21 2 1 (rL rI) x2.2.out])] [(21,true),(20,true),(21,true)] (aS h (fun c2 h=> ?_) (fun c2 h=> ?_))
  ·obtain rfl:=so h
   exact rq hC [] [2,3] [(2,V.t T.nilS),(3,vB false)] [] [] (qw (lk hC [.grow 2 0 33] [2] [(2,ms 0 1 1 (rL rI) [])] [(0,some (ar 33 1 1 (rL rI) []))] [(0,true)]) (qr eW))
  ·obtain rfl:=so h
   exact qk (rq hC [] [2,3,14,15,16,17] [(2,ms 21 2 1 (rL rI) x2.2.out),(3,vB true)] [] [] (qw (lk hC [.ren 2 21 0] [2] [(2,ms 0 1 1 (rL rI) x2.2.out)] [(0,some (ar 33 1 1 (rL rI) x2.2.out)),(21,none)] [(0,true)]) (qr eW)))
theorem R7(G:GS)(n:Nat)(s:Affine)(c0__a1:Int){r:Bool}(h:iQ n s c0__a1=some r):PQ G 222 [V.agg (aK s),V.tp [T.int .i64 c0__a1]] (vB r):=by
 unfold iQ at h
 refine pq aO Tryz.func222 rfl fun w X hC=> ?_
 refine rq hC [.z (.b (true))] [2,3] [(2,V.tp (aY s))] [] [] (vj h (fun x_=>aZ [(3,vB x_)] [] []) (fun j1 h=> ?_) (fun x4 h=> ?_))
 ·
  obtain⟨x2,hx2,h⟩:=bd h
  refine aR h (fun c1 h=> ?_) (fun c1 h=> ?_)
  ·obtain⟨x3,hx3,h⟩:=bd h
   exact dk hC bF ([oV (dZ G hx2),oF c1,oF c1,oV (fU G hx3)]++rF 3 c1) (fr 3 10) [(3,vB (decide (c0__a1<x3)))] [] [] (lE h)
  ·exact dk hC bF ([oV (dZ G hx2)]++rT 5 c1) (fr 3 10) [(3,vB true)] [] [] (lE h)
 ·obtain rfl:=so h
  exact qr eR
theorem nG{a}{depth}{r}(h:lQ n a depth=some r):PQ G 168 [V.agg (cW a),vI depth] (vB r):=by
 unfold lQ at h
 refine pq aO Tryz.func168 rfl fun w X hC=> ?_
 refine rq hC [.z (.b (true)),.z (.b (true))] [2,3,4] [(2,V.tp (d7 a)),(3,V.tp [T.int .i64 depth])] [] [] (vj h (fun x_=>aZ [(4,vB x_)] [] []) (fun j1 h=> ?_) (fun x5 h=> ?_))
 ·
  obtain⟨x2,hx2,h⟩:=bd h
  refine aR h (fun c1 h=> ?_) (fun c1 h=> ?_)
  ·exact rk hC ([oV (fA G hx2)]++rF 5 c1++sF 6) (fr 4 17) [(4,vB false)] [] [] (lE h)
  ·obtain⟨x3,hx3,h⟩:=bd h
   refine aR h (fun c2 h=> ?_) (fun c2 h=> ?_)
   ·exact rk hC ([oV (fA G hx2)]++rT 3 c1++[oN aA a.subs,oT c1,oV (bK G hx3),oT c1]++rF 6 c2) (fr 4 17) [(4,vB false)] [] [] (lE h)
   ·obtain⟨x4,hx4,h⟩:=bd h
    exact rk hC ([oV (fA G hx2)]++rT 3 c1++[oN aA a.subs,oT c1,oV (bK G hx3),oT c1]++rT 4 c2++[oV (iJ G n a.subs 222 [T.int .i64 depth] (fun q0=>iQ n q0 depth) (fun q0 r h=>R7 G n q0 depth h) hx4),oT c2,oT c2]) (fr 4 17) [(4,vB (!x4))] [] [] (lE h)
 ·obtain rfl:=so h
  exact qr eR
theorem iW{a}{r}(h:lO n a=some r):PQ G 224 [V.agg (aK a)] (vB r):=by
 unfold lO at h
 refine pq aO Tryz.func224 rfl fun w X hC=> ?_
 refine rq hC [.z (.b (true))] [1,2] [(1,V.tp (aY a))] [] [] (vj h (fun x_=>aZ [(2,vB x_)] [] []) (fun j1 h=> ?_) (fun x2 h=> ?_))
 ·
  refine aR h (fun c1 h=> ?_) (fun c1 h=> ?_)
  ·exact rk hC ([oN rI a.coefs]++rF 4 c1) (fr 2 10) [(2,vB false)] [] [] (lE h)
  ·exact rk hC ([oN rI a.coefs]++rT 4 c1) (fr 2 10) [(2,vB (decide (a.const=0)))] [] [] (lE h)
 ·obtain rfl:=so h
  exact qr eR
theorem nF{a}{r}(h:iG n a=some r):PQ G 225 [V.agg (cW a)] (vB r):=by
 unfold iG at h
 refine pq aO Tryz.func225 rfl fun w X hC=> ?_
 refine rq hC [.z (.b (true))] [1,2] [(1,V.tp (d7 a))] [] [] (vj h (fun x_=>aZ [(2,vB x_)] [] []) (fun j1 h=> ?_) (fun x2 h=> ?_))
 ·
  refine aR h (fun c1 h=> ?_) (fun c1 h=> ?_)
  ·exact rk hC (rF 5 c1) (fr 2 10) [(2,vB false)] [] [] (lE h)
  ·exact rk hC (rT 3 c1++[oN aA a.subs,oT c1,oT c1]) (fr 2 10) [(2,vB (decide ((a.subs.length:Int)=0)))] [] [] (lE h)
 ·obtain rfl:=so h
  exact qr eR
theorem aCM{kind}{r}(h:N4 n kind=some r):PQ G 226 [vI kind] (vB r):=by
 unfold N4 at h
 refine pq aO Tryz.func226 rfl fun w X hC=> ?_
 refine rq hC [] [2] [] [] [] ?_
 obtain⟨x1,hx1,h⟩:=bd h
 obtain rfl:=so h
 exact rq hC [oV (bK G hx1)] [2,3,4] [(2,vB x1)] [] [] (qr eR)
end Go.Lift
