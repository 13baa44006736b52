/- The walks: the code computes what the plain functions say. -/
import Derived.Test.YtiplelpjhgnmoaaGreatHModels
import Derived.Test.YtiplelpjhgnmoaaGreatHWalks2
set_option maxRecDepth 10000
set_option linter.unusedVariables false
namespace Go.Lift
open Go Go.Proofs
variable (G:GS) {n:Nat}
theorem T1{x}{r}(h:kU n x=some r):PQ G 233 [V.agg (cR x)] (V.agg (cR r)):=by
 unfold kU at h
 refine pq aN Tryz.func233 rfl fun w X hC=> ?_
 refine rq hC [.z (.nat 20),.z (.nat 21)] [1,2] [(1,V.ref 20 0),(2,V.ref 21 0)] [(20,some (E.cells (cR x))),(21,sc [vS [],V.t T.nilS,vI 0,vI 0,V.t T.nilS,vI 0,vS [],V.t T.nilS,V.t T.nilS])] [(20,true),(21,true)] ?_
 obtain⟨x1,hx1,h⟩:=bd h
 refine rq hC [oV (q8 G hx1)] (fr 3 4) [] [(20,sc [vS x1.array,vM aA x1.subs,vI x.value.kind,vI x.value.num,vM rI x.value.index.coefs,vI x.value.index.const,vS x.value.read.array,vM aA x.value.read.subs,vM aJ x.value.kids])] [] ?_
 obtain⟨x2,hx2,h⟩:=bd h
 obtain rfl:=so h
 exact rq hC [oV (T4 G n x.value hx2)] (fr 7 4) [] [(20,sc [vS x1.array,vM aA x1.subs,vI x2.kind,vI x2.num,vM rI x2.index.coefs,vI x2.index.const,vS x2.read.array,vM aA x2.read.subs,vM aJ x2.kids])] [] (rq hC [] [11] [] [(21,sc [vS x1.array,vM aA x1.subs,vI x2.kind,vI x2.num,vM rI x2.index.coefs,vI x2.index.const,vS x2.read.array,vM aA x2.read.subs,vM aJ x2.kids])] [] (qr eR))
theorem xB{list}{r}(h:fP n list=some r):VQ G 178 [] [vM aG list] (ms 0 1 9 aG r) [ar 87 1 9 aG r]:=by
 unfold fP at h
 refine vq aN Tryz.func178 rfl fun w X β0 hC hg=> ?_
 refine rq hC [] [2] [] [] [] (rq hC [.z (.nat 20)] [3,6] [(3,ms 20 1 9 aG [])] [(20,some (ar 87 1 9 aG []))] [(20,true)] (qs (rq hC [oN aG list] [7,8,9] [(7,vM aG list),(8,vI (list.length:Int)),(9,vI 0)] [] [] (qb (aZ (γ:=Nat) h (fun x_ g_=>aW [(3,ms 20 g_ 9 aG x_.1),(7,vM aG list),(8,vI (list.length:Int)),(9,vI x_.2)] [(20,ar 87 g_ 9 aG x_.1)] [20]) 1 (lS) ?_)))))
 rintro again4 ⟨x1,x2⟩ g3 h
 refine rq hC [] [10] [(10,vB (decide (x2<(list.length:Int))))] [] [] (qs (aT h (fun c1 h=> ?_) (fun c1 h=> ?_)))
 ·refine qk (qs (qb ?_))
  obtain⟨x5,hx5,h⟩:=bd h
  refine rq hC [oR aG hx5,.z (.nat 21)] [5,11,12] [(5,V.ref 21 0)] [(21,some (E.cells (cR x5)))] [(21,true)] ?_
  obtain⟨x6,hx6,x7,hx7,h⟩:=cV h
  exact rk hC [oV (T1 G hx6),.z (.int 0),oA (aO aG hx7),oQ (bP (r:=aG) 9 dV x1),oQ (bP (r:=aG) 9 dV [x6])] [3,13,14,15,16,17] [(3,ms 20 (g3+1) 9 aG x7)] [(20,some (ar 87 (g3+1) 9 aG x7))] [] (rk hC [] [9,18] [(9,vI (wr (x2+1)))] [] [] ⟨(x7,wr (x2+1)),(g3+1),h,lS⟩)
 ·obtain rfl:=so h
  exact cK (rq hC [] [2,19] [(2,ms 20 g3 9 aG x1)] [] [] (qw (lk hC [.ren 2 20 0] [2] [(2,ms 0 1 9 aG x1)] [(0,some (ar 87 1 9 aG x1)),(20,none)] [(0,true)]) (qr eW)))
theorem T2{x}{r}(h:kV n x=some r):PQ G 134 [V.agg (lO x)] (V.agg (lO r)):=by
 unfold kV at h
 refine pq aN Tryz.func134 rfl fun w X hC=> ?_
 refine rq hC [.z (.nat 20),.z (.nat 21)] [1,2] [(1,V.ref 20 0),(2,V.ref 21 0)] [(20,some (E.cells (lO x))),(21,sc [V.t T.nilS,V.t T.nilS])] [(20,true),(21,true)] ?_
 obtain⟨x1,hx1,h⟩:=bd h
 refine rq hC [oC [] [22] (xD G hx1)] (fr 3 4) [] [(22,some (ar 58 1 2 aC x1)),(20,sc [ms 22 1 2 aC x1,vM aG x.body])] [(22,true)] ?_
 obtain⟨x2,hx2,h⟩:=bd h
 obtain rfl:=so h
 exact rq hC [oC [] [23] (xB G hx2)] (fr 7 4) [] [(23,some (ar 87 1 9 aG x2)),(20,sc [ms 22 1 2 aC x1,ms 23 1 9 aG x2])] [(23,true)] (rq hC [.z (.at 2),.z (.fz 22 [] [20]),.z (.at 2),.z (.fz 23 [] [20])] [11] [] [(20,sc [vM aC x1,vM aG x2]),(22,none),(23,none),(21,sc [vM aC x1,vM aG x2])] [] (qr eR))
theorem xC{list}{r}(h:fQ n list=some r):VQ G 84 [] [vM aD list] (ms 0 1 2 aD r) [ar 62 1 2 aD r]:=by
 unfold fQ at h
 refine vq aN Tryz.func84 rfl fun w X β0 hC hg=> ?_
 refine rq hC [] [2] [] [] [] (rq hC [.z (.nat 20)] [3,6] [(3,ms 20 1 2 aD [])] [(20,some (ar 62 1 2 aD []))] [(20,true)] (qs (rq hC [oN aD list] [7,8,9] [(7,vM aD list),(8,vI (list.length:Int)),(9,vI 0)] [] [] (qb (aZ (γ:=Nat) h (fun x_ g_=>aW [(3,ms 20 g_ 2 aD x_.1),(7,vM aD list),(8,vI (list.length:Int)),(9,vI x_.2)] [(20,ar 62 g_ 2 aD x_.1)] [20]) 1 (lS) ?_)))))
 rintro again4 ⟨x1,x2⟩ g3 h
 refine rq hC [] [10] [(10,vB (decide (x2<(list.length:Int))))] [] [] (qs (aT h (fun c1 h=> ?_) (fun c1 h=> ?_)))
 ·refine qk (qs (qb ?_))
  obtain⟨x5,hx5,h⟩:=bd h
  refine rq hC [oR aD hx5,.z (.nat 21)] [5,11,12] [(5,V.ref 21 0)] [(21,some (E.cells (lO x5)))] [(21,true)] ?_
  obtain⟨x6,hx6,x7,hx7,h⟩:=cV h
  exact rk hC [oV (T2 G hx6),.z (.int 0),oA (aO aD hx7),oQ (bP (r:=aD) 2 b8 x1),oQ (bP (r:=aD) 2 b8 [x6])] [3,13,14,15,16,17] [(3,ms 20 (g3+1) 2 aD x7)] [(20,some (ar 62 (g3+1) 2 aD x7))] [] (rk hC [] [9,18] [(9,vI (wr (x2+1)))] [] [] ⟨(x7,wr (x2+1)),(g3+1),h,lS⟩)
 ·obtain rfl:=so h
  exact cK (rq hC [] [2,19] [(2,ms 20 g3 2 aD x1)] [] [] (qw (lk hC [.ren 2 20 0] [2] [(2,ms 0 1 2 aD x1)] [(0,some (ar 62 1 2 aD x1)),(20,none)] [(0,true)]) (qr eW)))
theorem y9{x}{r}(h:gK n x=some r):PQ G 39 [V.agg (bJ x)] (V.agg (bJ r)):=by
 unfold gK at h
 refine pq aN Tryz.func39 rfl fun w X hC=> ?_
 refine rq hC [.z (.nat 20),.z (.nat 21)] [1,2] [(1,V.ref 20 0),(2,V.ref 21 0)] [(20,some (E.cells (bJ x))),(21,sc [V.t T.nilS,V.t T.nilS])] [(20,true),(21,true)] ?_
 obtain⟨x1,hx1,h⟩:=bd h
 refine rq hC [oC [] [22] (vT G hx1)] (fr 3 4) [] [(22,some (ar 77 1 2 aI x1)),(20,sc [ms 22 1 2 aI x1,vM aD x.parts])] [(22,true)] ?_
 obtain⟨x2,hx2,h⟩:=bd h
 obtain rfl:=so h
 exact rq hC [oC [] [23] (xC G hx2)] (fr 7 4) [] [(23,some (ar 62 1 2 aD x2)),(20,sc [ms 22 1 2 aI x1,ms 23 1 2 aD x2])] [(23,true)] (rq hC [.z (.at 2),.z (.fz 22 [] [20]),.z (.at 2),.z (.fz 23 [] [20])] [11] [] [(20,sc [vM aI x1,vM aD x2]),(22,none),(23,none),(21,sc [vM aI x1,vM aD x2])] [] (qr eR))
theorem aAt{p}{part}{loop}{r}(h:xW n p part loop=some r):PQ G 40 [V.agg (bJ p),vI part,vI loop] (vB r):=by
 unfold xW at h
 refine pq aN Tryz.func40 rfl fun w X hC=> ?_
 refine rq hC [.z (.b (true))] [3,6] [(3,V.tp (cF p))] [] [] (vj h (fun x_=>aW [(6,vB x_)] [] []) (fun j1 h=> ?_) (fun x4 h=> ?_))
 ·
  obtain⟨x2,hx2,h⟩:=bd h
  refine aS h (fun c1 h=> ?_) (fun c1 h=> ?_)
  ·exact rk hC ([oV (dA G hx2)]++rF 3 c1++sF 19) (fr 6 29) [(6,vB false)] [] [] (lE h)
  ·refine aS h (fun c2 h=> ?_) (fun c2 h=> ?_)
   ·exact rk hC ([oV (dA G hx2)]++rT 3 c1++rF 6 c2++sF 13) (fr 6 29) [(6,vB false)] [] [] (lE h)
   ·refine aS h (fun c3 h=> ?_) (fun c3 h=> ?_)
    ·exact rk hC ([oV (dA G hx2)]++rT 3 c1++rT 4 c2++[oN aD p.parts,oT c2,oT c2]++rF 3 c3++sF 10) (fr 6 29) [(6,vB false)] [] [] (lE h)
    ·refine aS h (fun c4 h=> ?_) (fun c4 h=> ?_)
     ·exact rk hC ([oV (dA G hx2)]++rT 3 c1++rT 4 c2++[oN aD p.parts,oT c2,oT c2]++rT 3 c3++rF 10 c4) (fr 6 29) [(6,vB false)] [] [] (lE h)
     ·obtain⟨x3,hx3,h⟩:=bd h
      exact rk hC ([oV (dA G hx2)]++rT 3 c1++rT 4 c2++[oN aD p.parts,oT c2,oT c2]++rT 3 c3++rT 5 c4++[oR aD hx3]++rT 3 c4++[oN aC x3.nest,oT c4,oT c4]) (fr 6 29) [(6,vB (decide (loop<(x3.nest.length:Int))))] [] [] (lE h)
 ·obtain rfl:=so h
  exact qr eR
theorem aEm{p}{part}{many}{parts}{r}(h:tK n p part many parts=some r):PQ G 42 [V.agg (bJ p),vI part,vI many,vM aD parts] (V.tup [V.agg (bJ r.1),vB r.2]):=by
 unfold tK at h
 refine pq aN Tryz.func42 rfl fun w X hC=> ?_
 refine rq hC [.z (.b (true)),.z (.nat 20)] [4,8,9] [(4,V.tp (cF p)),(8,V.ref 20 0)] [(20,sc [V.t T.nilS,V.t T.nilS])] [(20,true)] ?_
 obtain⟨x1,hx1,h⟩:=bd h
 refine rq hC [oC [] [21,22] (w8 G hx1),.z (.nat 23)] [10,12,13] [(10,V.ref 23 0)] [(21,some (ar 77 1 2 aI x1.arrays)),(22,some (E.tree m7 2 1 (List.map aD x1.parts) [])),(23,sc [ms 21 1 2 aI x1.arrays,ms 22 1 2 aD x1.parts])] [(21,true),(22,true),(23,true)] (rq hC [.z (.nat 24)] [11,14,15,16] [(11,V.ref 24 0)] [(24,sc [ms 21 1 2 aI x1.arrays,V.t T.nilS])] [(24,true)] (qs (qw (lk hC [.shd 22,.fz 22 [] [23]] [] [] [(22,none),(23,sc [ms 21 1 2 aI x1.arrays,vM aD x1.parts])] []) ?_)))
 obtain⟨x2,hx2,x3,hx3,x4,hx4,h⟩:=jI h
 obtain⟨x5,hx5,x6,hx6,h⟩:=cV h
 refine dk hC bD [.z (.nat 25),oA (xU aD hx2),oQ (bP (r:=aD) 2 b8 x1.parts),oA (aO aD hx3),oQ (bP (r:=aD) 2 b8 []),oQ (bP (r:=aD) 2 b8 x2),oA (aO aD hx4),oQ (bP (r:=aD) 2 b8 x3),oQ (bP (r:=aD) 2 b8 parts),oA (aG8 aD hx5),oQ (bP (r:=aD) 2 b8 x1.parts),oA (aO aD hx6),oQ (bP (r:=aD) 2 b8 x4),oQ (bP (r:=aD) 2 b8 x5)] (fr 17 16) [] [(25,some (ar 62 4 2 aD x6)),(24,sc [ms 21 1 2 aI x1.arrays,ms 25 4 2 aD x6])] [(25,true)] (qs ?_)
 obtain⟨x7,hx7,h⟩:=bd h
 refine rq hC [.z (.at 3),.z (.fz 21 [] [23,24]),.z (.at 3),.z (.fz 25 [] [24]),oV (dA G hx7)] [33,34,35] [(35,vB (!x7))] [(23,some (E.cells (bJ x1))),(24,sc [vM aI x1.arrays,vM aD x6]),(21,none),(25,none)] [] (aT h (fun c1 h=> ?_) (fun c1 h=> ?_))
 ·obtain rfl:=so h
  exact rq hC [] [9,36] [(9,vB false)] [(20,sc [V.t T.nilS,V.t T.nilS])] [] (qr eR)
 ·refine qk ?_
  obtain⟨x8,hx8,h⟩:=bd h
  obtain rfl:=so h
  exact rq hC [oC [] [26,27] (w8 G hx8)] [9,37,38] [(9,vB true)] [(26,some (ar 77 1 2 aI x8.arrays)),(27,some (E.tree m7 2 1 (List.map aD x8.parts) [])),(20,sc [ms 26 1 2 aI x8.arrays,ms 27 1 2 aD x8.parts])] [(26,true),(27,true)] (qw (lk hC [.fz 26 [] [20]] [] [] [(20,sc [vM aI x8.arrays,ms 27 1 2 aD x8.parts]),(26,none)] []) (qw (lk hC [.shd 27,.fz 27 [] [20]] [] [] [(27,none),(20,some (E.cells (bJ x8)))] []) (qr eR)))
theorem aEn{a}{v}{r}(h:K5 n a v=some r):PQ G 269 [V.agg (aK a),vI v] (V.agg (aK r)):=by
 unfold K5 at h
 refine pq aN Tryz.func269 rfl fun w X hC=> ?_
 refine rq hC [.z (.b (true)),.z (.nat 20)] [2,4] [(2,V.tp (aR a)),(4,V.ref 20 0)] [(20,sc [V.t T.nilS,vI 0])] [(20,true)] ?_
 obtain⟨x1,hx1,h⟩:=bd h
 refine rq hC [oC [] [21] (mD G hx1),.z (.nat 22)] [5,6,7] [(5,V.ref 22 0)] [(21,some (ar 3 1 1 rI x1.coefs)),(22,sc [ms 21 1 1 rI x1.coefs,vI x1.const])] [(21,true),(22,true)] (qs ?_)
 obtain⟨x2,hx2,x3,hx3,x4,hx4,h⟩:=jI h
 refine dk hC bD [oR rI hx2,oQ (jO rI hx3),oX rI hx3,.z (.rows (List.map rI x4)),oQ (str rI hx4)] (fr 8 10) [] [(21,some (ar 3 1 1 rI x4))] [] (qw (A3 hC [.lenc 22 0 (List.map rI x4).length] [] [] [(22,sc [ms 21 1 1 rI x4,vI x1.const])] [] (a1 (gY rI hx4)) (by kernel_rfl)) (qs ?_))
 obtain⟨x5,hx5,x6,hx6,x7,hx7,h⟩:=jI h
 obtain rfl:=so h
 exact dk hC bD [oR rI hx5,oQ (jO rI hx6),oX rI hx6,.z (.rows (List.map rI x7)),oQ (str rI hx7)] (fr 18 10) [] [(21,some (ar 3 1 1 rI x7))] [] (qw (A3 hC [.lenc 22 0 (List.map rI x7).length] [] [] [(22,sc [ms 21 1 1 rI x7,vI x1.const])] [] (a1 (gY rI hx7)) (by kernel_rfl)) (rq hC [.z (.at 2),.z (.fz 21 [] [22])] [28] [] [(22,sc [vM rI x7,vI x1.const]),(21,none),(20,sc [vM rI x7,vI x1.const])] [] (qr eR)))
theorem aCQ{a}{v}{b}{r}(h:qS n a v b=some r):PQ G 270 [V.agg (aK a),vI v,V.agg (aK b)] (V.agg (aK r)):=by
 unfold qS at h
 refine pq aN Tryz.func270 rfl fun w X hC=> ?_
 refine rq hC [.z (.b (true)),.z (.b (true)),.z (.nat 20)] [3,5,6] [(3,V.tp (aR a)),(5,V.tp (aR b)),(6,V.ref 20 0)] [(20,sc [V.t T.nilS,vI 0])] [(20,true)] (qs ?_)
 obtain⟨x1,hx1,h⟩:=bd h
 refine dk hC bD [.z (.nat 21),oA (aO rI hx1),.z (.nat 22),oQ (bP (r:=rI) 1 (fun _=>rfl) []),oQ (bP (r:=rI) 1 (fun _=>rfl) a.coefs)] (fr 7 8) [(7,V.ref 22 0)] [(21,some (ar 3 2 1 rI x1)),(22,sc [ms 21 2 1 rI x1,vI a.const])] [(21,true),(22,true)] ?_
 obtain⟨x2,hx2,x3,hx3,h⟩:=cV h
 refine rq hC [oQ (jO rI hx2),oX rI hx2,.z (.rows (List.map rI x3)),.z (.lenc 22 0 (List.map rI x3).length),oQ (str rI hx3),oQ (gY rI hx3)] (fr 15 4) [] [(21,some (ar 3 2 1 rI x3)),(22,sc [ms 21 2 1 rI x3,vI a.const])] [] (qs ?_)
 obtain⟨x4,hx4,x5,hx5,h⟩:=cV h
 obtain rfl:=so h
 exact dk hC bD [.z (.at 9),.z (.fz 21 [] [22]),oR rI hx4,oC [] [23] (gX G hx5)] (fr 19 8) [] [(22,sc [vM rI x3,vI a.const]),(21,none),(23,some (ar 3 1 1 rI x5.coefs)),(20,sc [ms 23 1 1 rI x5.coefs,vI x5.const])] [(23,true)] (qw (lk hC [.fz 23 [] [20]] [] [] [(20,some (E.cells (aK x5))),(23,none)] []) (qr eR))
theorem S2{a}{way}{v}{b}{r}(h:gJ n a way v b=some r):PQ G 235 [V.agg (aK a),vI way,vI v,V.agg (aK b)] (V.agg (aK r)):=by
 unfold gJ at h
 refine pq aN Tryz.func235 rfl fun w X hC=> ?_
 refine rq hC [.z (.b (true)),.z (.b (true)),.z (.nat 20)] [4,7,8] [(4,V.tp (aR a)),(7,V.tp (aR b)),(8,V.ref 20 0)] [(20,sc [V.t T.nilS,vI 0])] [(20,true)] (qs (rq hC [] [11] [(11,vI way)] [] [] (qb (rq hC [] [12,13] [(12,vB (decide (way=0)))] [] [] (aT h (fun c1 h=> ?_) (fun c1 h=> ?_))))))
 ·obtain⟨x1,hx1,h⟩:=bd h
  obtain rfl:=so h
  exact rq hC [oV (aEn G hx1)] [14,15,16] [] [(20,some (E.cells (aK x1)))] [] (qr eR)
 ·refine rq hC [] [17,18] [(17,vB (decide (way=1)))] [] [] (aT h (fun c2 h=> ?_) (fun c2 h=> ?_))
  ·obtain⟨x2,hx2,h⟩:=bd h
   obtain rfl:=so h
   exact rq hC [oV (aCQ G hx2)] (fr 19 4) [] [(20,some (E.cells (aK x2)))] [] (qr eR)
  ·refine qk (rq hC [.z (.nat 21)] [9,23,24,25] [(9,V.ref 21 0)] [(21,sc [V.t T.nilS,vI a.const])] [(21,true)] (qs (rq hC [] [10] [(10,vI 0)] [] [] (qb (qw (lk hC [.growc 21 0 22 3] [] [] [(22,some (ar 3 1 1 rI [])),(21,sc [ms 22 1 1 rI [],vI a.const])] [(22,true)]) ?_)))))
   refine aZ (γ:=Nat) h (fun x_ g_=>aW [(2,vI v),(4,V.tp (aR a)),(8,V.ref 20 0),(9,V.ref 21 0),(10,vI x_.2)] [(20,E.cells [V.t T.nilS,vI 0]),(21,E.cells [ms 22 g_ 1 rI x_.1,vI a.const]),(22,ar 3 g_ 1 rI x_.1)] [20,21,22]) 1 (lS) ?_
   rintro again6 ⟨x3,x4⟩ g5 h
   refine qs (rq hC [] [26,27] [(27,vB (decide (x4<4)))] [] [] (aT h (fun c3 h=> ?_) (fun c3 h=> ?_)))
   ·refine qk (vj h (fun x_=>aW [(2,vI v),(4,V.tp (aR a)),(8,V.ref 20 0),(9,V.ref 21 0),(10,vI x4)] [(20,E.cells [V.t T.nilS,vI 0]),(21,E.cells [ms 22 (g5+1) 1 rI x_,vI a.const]),(22,ar 3 (g5+1) 1 rI x_)] [20,21,22]) (fun j7 h=> ?_) (fun x13 h=> ?_))
    ·
     refine qb (qb (rq hC [] (fr 41 4) [(41,vB (decide (x4<v)))] [] [] (aT h (fun c4 h=> ?_) (fun c4 h=> ?_))))
     ·obtain⟨x8,hx8,x9,hx9,h⟩:=cV h
      exact dk hC bD [oR rI hx8,.z (.int 0),oA (aO rI hx9),oQ (bP (r:=rI) 1 (fun _=>rfl) x3),oQ (bP (r:=rI) 1 (fun _=>rfl) [x8])] (fr 45 10) [] [(22,some (ar 3 (g5+1) 1 rI x9)),(21,sc [ms 22 (g5+1) 1 rI x9,vI a.const])] [] (lE h)
     ·refine rq hC [] (fr 55 4) [(55,vB (decide (x4=v)))] [] [] (aT h (fun c5 h=> ?_) (fun c5 h=> ?_))
      ·obtain⟨x10,hx10,h⟩:=bd h
       exact rk hC [.z (.int 0),oA (aO rI hx10),oQ (bP (r:=rI) 1 (fun _=>rfl) x3),oQ (bP (r:=rI) 1 (fun _=>rfl) [0])] (fr 59 5) [] [(22,some (ar 3 (g5+1) 1 rI x10)),(21,sc [ms 22 (g5+1) 1 rI x10,vI a.const])] [] (lE h)
      ·obtain⟨x11,hx11,x12,hx12,h⟩:=cV h
       exact dk hC bD [oR rI hx11,.z (.int 0),oA (aO rI hx12),oQ (bP (r:=rI) 1 (fun _=>rfl) x3),oQ (bP (r:=rI) 1 (fun _=>rfl) [x11])] (fr 30 11) [] [(22,some (ar 3 (g5+1) 1 rI x12)),(21,sc [ms 22 (g5+1) 1 rI x12,vI a.const])] [] (lE h)
    ·exact rk hC [] [10,28,29] [(10,vI (wr (x4+1)))] [] [] ⟨(x13,wr (x4+1)),(g5+1),h,lS⟩
   ·obtain rfl:=so h
    exact cK (rq hC [.z (.at 2),.z (.fz 22 [] [21])] [64] [] [(21,sc [vM rI x3,vI a.const]),(22,none),(20,sc [vM rI x3,vI a.const])] [] (qr eR))
theorem w6{list}{way}{v}{b}{r}(h:oH n list way v b=some r):VQ G 183 [] [vM aA list,vI way,vI v,V.agg (aK b)] (ms 0 1 2 aA r) [ar 65 1 2 aA r]:=by
 unfold oH at h
 refine vq aN Tryz.func183 rfl fun w X β0 hC hg=> ?_
 refine rq hC [.z (.b (true))] [7,8] [(7,V.tp (aR b))] [] [] (rq hC [.z (.nat 20)] [9,11] [(9,ms 20 1 2 aA [])] [(20,some (ar 65 1 2 aA []))] [(20,true)] (qs (rq hC [] [10] [(10,vI 0)] [] [] (qb (aZ (γ:=Nat) h (fun x_ g_=>aW [(0,vM aA list),(1,vI way),(2,vI v),(7,V.tp (aR b)),(9,ms 20 g_ 2 aA x_.1),(10,vI x_.2)] [(20,ar 65 g_ 2 aA x_.1)] [20]) 1 (lS) ?_)))))
 rintro again4 ⟨x1,x2⟩ g3 h
 refine qs (rq hC [oN aA list] (fr 12 4) [(15,vB (decide (x2<(list.length:Int))))] [] [] (aT h (fun c1 h=> ?_) (fun c1 h=> ?_)))
 ·refine qk (qs (qb ?_))
  obtain⟨x5,hx5,x6,hx6,x7,hx7,h⟩:=jI h
  exact dk hC bD [oR aA hx5,oV (S2 G hx6),.z (.int 0),oA (aO aA hx7),oQ (bP (r:=aA) 2 aU x1),oQ (bP (r:=aA) 2 aU [x6])] [9,18,19,20,21,22,23,24,25,26,27,28] [(9,ms 20 (g3+1) 2 aA x7)] [(20,some (ar 65 (g3+1) 2 aA x7))] [] (rk hC [] [10,16,17] [(10,vI (wr (x2+1)))] [] [] ⟨(x7,wr (x2+1)),(g3+1),h,lS⟩)
 ·obtain rfl:=so h
  exact cK (rq hC [] [8,29] [(8,ms 20 g3 2 aA x1)] [] [] (qw (lk hC [.ren 8 20 0] [8] [(8,ms 0 1 2 aA x1)] [(0,some (ar 65 1 2 aA x1)),(20,none)] [(0,true)]) (qr eW)))
theorem y0{a}{way}{v}{b}{r}(h:jY n a way v b=some r):PQ G 181 [V.agg (cD a),vI way,vI v,V.agg (aK b)] (V.agg (cD r)):=by
 unfold jY at h
 refine pq aN Tryz.func181 rfl fun w X hC=> ?_
 refine rq hC [.z (.b (true)),.z (.b (true)),.z (.nat 20)] [4,7,8] [(4,V.tp (dO a)),(7,V.tp (aR b)),(8,V.ref 20 0)] [(20,sc [vS [],V.t T.nilS])] [(20,true)] (qs ?_)
 obtain⟨x1,hx1,h⟩:=bd h
 obtain rfl:=so h
 exact dk hC bD [oC [] [21] (w6 G hx1)] (fr 9 9) [] [(21,some (ar 65 1 2 aA x1)),(20,sc [vS a.array,ms 21 1 2 aA x1])] [(21,true)] (qw (lk hC [.fz 21 [] [20]] [] [] [(20,sc [vS a.array,vM aA x1]),(21,none)] []) (qr eR))
theorem aEq(G:GS): ∀(n:Nat) (e:Expr) (way:Int) (v:Int) (b:Affine) {r:Expr} (h:s_l8Expr n e way v b=some r),PQ G 182 [V.agg (dB e),vI way,vI v,V.agg (aK b)] (V.agg (dB r)):=by
 intro n
 induction n with
 |zero=>intro e way v b r h;rw [s_l8Expr.eq_def] at h;cases h
 |succ n ih=>
  intro e way v b r h
  rw [s_l8Expr.eq_def] at h;dsimp only at h
  refine pq aN Tryz.func182 rfl fun w X hC=> ?_
  refine rq hC [.z (.b (true)),.z (.b (true)),.z (.nat 20)] [4,7,8] [(4,V.tp (fM e)),(7,V.tp (aR b)),(8,V.ref 20 0)] [(20,sc [vI 0,vI 0,V.t T.nilS,vI 0,vS [],V.t T.nilS,V.t T.nilS])] [(20,true)] (rq hC [.z (.nat 21)] [9,11,12,13,14,15] [(9,V.ref 21 0)] [(21,sc [vI e.kind,vI e.num,V.t T.nilS,vI 0,vS [],V.t T.nilS,V.t T.nilS])] [(21,true)] (vj h (fun x_=>aW [(1,vI way),(2,vI v),(4,V.tp (fM e)),(7,V.tp (aR b)),(8,V.ref 20 0),(9,V.ref 21 0)] [(20,E.cells [vI 0,vI 0,V.t T.nilS,vI 0,vS [],V.t T.nilS,V.t T.nilS]),(21,E.cells [vI e.kind,vI e.num,vM rI x_.1,vI x_.2,vS [],V.t T.nilS,V.t T.nilS])] [20,21]) (fun j1 h=> ?_) ?_))
  ·
   refine rq hC [] [16,17,18] [(18,vB (decide (e.kind=2)))] [] [] (aT h (fun c1 h=> ?_) (fun c1 h=> ?_))
   ·obtain⟨x2,hx2,h⟩:=bd h
    exact rk hC [oV (S2 G hx2)] (fr 19 7) [] [(21,sc [vI e.kind,vI e.num,vM rI x2.coefs,vI x2.const,vS [],V.t T.nilS,V.t T.nilS])] [] (lE h)
   ·exact qk (lE h)
  ·rintro⟨x3,x4⟩ h
   refine vj h (fun x_=>aW [(1,vI way),(2,vI v),(4,V.tp (fM e)),(7,V.tp (aR b)),(8,V.ref 20 0),(9,V.ref 21 0)] [(20,E.cells [vI 0,vI 0,V.t T.nilS,vI 0,vS [],V.t T.nilS,V.t T.nilS]),(21,E.cells [vI e.kind,vI e.num,vM rI x3,vI x4,vS x_.1,vM aA x_.2,V.t T.nilS])] [20,21]) (fun j5 h=> ?_) ?_
   ·
    refine rq hC [] [26,27,28] [(28,vB (decide (e.kind=3)))] [] [] (aT h (fun c2 h=> ?_) (fun c2 h=> ?_))
    ·obtain⟨x6,hx6,h⟩:=bd h
     exact rk hC [oV (y0 G hx6)] (fr 29 7) [] [(21,sc [vI e.kind,vI e.num,vM rI x3,vI x4,vS x6.array,vM aA x6.subs,V.t T.nilS])] [] (lE h)
    ·exact qk (lE h)
   ·rintro⟨x7,x8⟩ h
    refine qs (rq hC [] [10] [(10,vI 0)] [] [] (qb (qw (lk hC [.growc 21 6 22 85] [] [] [(22,some (ar 85 1 7 aJ [])),(21,sc [vI e.kind,vI e.num,vM rI x3,vI x4,vS x7,vM aA x8,ms 22 1 7 aJ []])] [(22,true)]) (aZ (γ:=Nat) h (fun x_ g_=>aW [(1,vI way),(2,vI v),(4,V.tp (fM e)),(7,V.tp (aR b)),(8,V.ref 20 0),(9,V.ref 21 0),(10,vI x_.2)] [(20,E.cells [vI 0,vI 0,V.t T.nilS,vI 0,vS [],V.t T.nilS,V.t T.nilS]),(21,E.cells [vI e.kind,vI e.num,vM rI x3,vI x4,vS x7,vM aA x8,ms 22 g_ 7 aJ x_.1]),(22,ar 85 g_ 7 aJ x_.1)] [20,21,22]) 1 (lS) ?_))))
    rintro again12 ⟨x9,x10⟩ g11 h
    refine qs (rq hC [oN aJ e.kids] (fr 36 5) [(40,vB (decide (x10<(e.kids.length:Int))))] [] [] (aT h (fun c3 h=> ?_) (fun c3 h=> ?_)))
    ·refine qk (qs (qb ?_))
     obtain⟨x13,hx13,x14,hx14,x15,hx15,h⟩:=jI h
     exact dk hC bD [.z (.row (eM x13)),oQ (fO aJ hx13 (dC x13)),oV (ih x13 way v b hx14),.z (.int 2),.z (.rows (List.map aJ [x14])),oQ (sJ x14),oA (aO aJ hx15),oQ (bP (r:=aJ) 7 dW x9),oQ (bP (r:=aJ) 7 dW [x14])] (fr 43 14) [] [(22,some (ar 85 (g11+1) 7 aJ x15)),(21,sc [vI e.kind,vI e.num,vM rI x3,vI x4,vS x7,vM aA x8,ms 22 (g11+1) 7 aJ x15])] [] (rk hC [] [10,41,42] [(10,vI (wr (x10+1)))] [] [] ⟨(x15,wr (x10+1)),(g11+1),h,lS⟩)
    ·obtain rfl:=so h
     exact cK (rq hC [.z (.at 2),.z (.fz 22 [] [21])] [57] [] [(21,sc [vI e.kind,vI e.num,vM rI x3,vI x4,vS x7,vM aA x8,vM aJ x9]),(22,none),(20,sc [vI e.kind,vI e.num,vM rI x3,vI x4,vS x7,vM aA x8,vM aJ x9])] [] (qr eR))
theorem aEs{list}{way}{v}{b}{r}(h:tN n list way v b=some r):VQ G 137 [] [vM aG list,vI way,vI v,V.agg (aK b)] (ms 0 1 9 aG r) [ar 87 1 9 aG r]:=by
 unfold tN at h
 refine vq aN Tryz.func137 rfl fun w X β0 hC hg=> ?_
 refine rq hC [.z (.b (true))] [7,8] [(7,V.tp (aR b))] [] [] (rq hC [.z (.nat 20)] [9,11] [(9,ms 20 1 9 aG [])] [(20,some (ar 87 1 9 aG []))] [(20,true)] (qs (rq hC [] [10] [(10,vI 0)] [] [] (qb (aZ (γ:=Nat) h (fun x_ g_=>aW [(0,vM aG list),(1,vI way),(2,vI v),(7,V.tp (aR b)),(9,ms 20 g_ 9 aG x_.1),(10,vI x_.2)] [(20,ar 87 g_ 9 aG x_.1)] [20]) 1 (lS) ?_)))))
 rintro again4 ⟨x1,x2⟩ g3 h
 refine qs (rq hC [oN aG list] (fr 12 4) [(15,vB (decide (x2<(list.length:Int))))] [] [] (aT h (fun c1 h=> ?_) (fun c1 h=> ?_)))
 ·refine qk (qs (qb ?_))
  obtain⟨x5,hx5,x6,hx6,x7,hx7,h⟩:=jI h
  obtain⟨x8,hx8,h⟩:=bd h
  exact dk hC bD [oR aG hx5,oV (y0 G hx6),oR aG hx5,oV (aEq G n x5.value way v b hx7),.z (.int 0),oA (aO aG hx8),oQ (bP (r:=aG) 9 dV x1),oQ (bP (r:=aG) 9 dV [(⟨x6,x7⟩:Stmt)])] [9,18,19,20,21,22,23,24,25,26,27,28,29,30,31,32,33,34,35,36,37,38,39] [(9,ms 20 (g3+1) 9 aG x8)] [(20,some (ar 87 (g3+1) 9 aG x8))] [] (rk hC [] [10,16,17] [(10,vI (wr (x2+1)))] [] [] ⟨(x8,wr (x2+1)),(g3+1),h,lS⟩)
 ·obtain rfl:=so h
  exact cK (rq hC [] [8,40] [(8,ms 20 g3 9 aG x1)] [] [] (qw (lk hC [.ren 8 20 0] [8] [(8,ms 0 1 9 aG x1)] [(0,some (ar 87 1 9 aG x1)),(20,none)] [(0,true)]) (qr eW)))
theorem aEp{x}{way}{v}{b}{r}(h:qM n x way v b=some r):PQ G 138 [V.agg (kN x),vI way,vI v,V.agg (aK b)] (V.agg (kN r)):=by
 unfold qM at h
 refine pq aN Tryz.func138 rfl fun w X hC=> ?_
 refine rq hC [.z (.b (true)),.z (.b (true)),.z (.nat 20)] [4,7,8] [(4,V.tp (vX x)),(7,V.tp (aR b)),(8,V.ref 20 0)] [(20,sc [V.t T.nilS,V.t T.nilS])] [(20,true)] (qs ?_)
 obtain⟨x1,hx1,x2,hx2,h⟩:=cV h
 obtain rfl:=so h
 exact dk hC bD [oC [] [21] (w6 G hx1),oC [] [22] (w6 G hx2)] (fr 9 13) [] [(21,some (ar 65 1 2 aA x1)),(22,some (ar 65 1 2 aA x2)),(20,sc [ms 21 1 2 aA x1,ms 22 1 2 aA x2])] [(21,true),(22,true)] (qw (lk hC [.fz 21 [] [20]] [] [] [(20,sc [vM aA x1,ms 22 1 2 aA x2]),(21,none)] []) (qw (lk hC [.fz 22 [] [20]] [] [] [(20,sc [vM aA x1,vM aA x2]),(22,none)] []) (qr eR)))
theorem aCH{x}{after}{way}{v}{b}{r}(h:qN n x after way v b=some r):VQ G 88 [] [V.agg (lO x),vI after,vI way,vI v,V.agg (aK b)] (V.agg [ms 0 1 2 aC r.nest,ms 1 1 9 aG r.body]) [ar 58 1 2 aC r.nest,ar 87 1 9 aG r.body]:=by
 unfold qN at h
 refine vq aN Tryz.func88 rfl fun w X β0 hC hg=> ?_
 refine rq hC [.z (.b (true)),.z (.b (true)),.z (.nat 20)] [5,9,10] [(5,V.tp (kF x)),(9,V.tp (aR b)),(10,V.ref 20 0)] [(20,sc [V.t T.nilS,V.t T.nilS])] [(20,true)] (qs ?_)
 obtain⟨x1,hx1,x2,hx2,x3,hx3,h⟩:=jI h
 refine dk hC bD [.z (.nat 21),oA (xU aC hx1),oQ (bP (r:=aC) 2 b9 x.nest),oA (aO aC hx2),oQ (bP (r:=aC) 2 b9 []),oQ (bP (r:=aC) 2 b9 x1),oC [] [22] (aEs G hx3),.z (.nat 23)] [11,13,14,15,16,17,18,19,20,21,22,23,24,25,26] [(11,V.ref 23 0)] [(21,some (ar 58 2 2 aC x2)),(22,some (ar 87 1 9 aG x3)),(23,sc [ms 21 2 2 aC x2,ms 22 1 9 aG x3])] [(21,true),(22,true),(23,true)] (qs (rq hC [] [12,27,28] [(12,vI (wr (after+1)))] [] [] (qb (aZ (γ:=Nat) h (fun x_ g_=>aW [(2,vI way),(3,vI v),(5,V.tp (kF x)),(9,V.tp (aR b)),(10,V.ref 20 0),(11,V.ref 23 0),(12,vI x_.2)] [(20,E.cells [V.t T.nilS,V.t T.nilS]),(21,ar 58 g_ 2 aC x_.1),(22,ar 87 1 9 aG x3),(23,E.cells [ms 21 g_ 2 aC x_.1,ms 22 1 9 aG x3])] [20,21,22,23]) 2 (lS) ?_))))
 rintro again7 ⟨x4,x5⟩ g6 h
 refine qs (rq hC [oN aC x.nest] (fr 29 5) [(33,vB (decide (x5<(x.nest.length:Int))))] [] [] (aT h (fun c1 h=> ?_) (fun c1 h=> ?_)))
 ·refine qk (qs (qb ?_))
  obtain⟨x8,hx8,x9,hx9,x10,hx10,h⟩:=jI h
  exact dk hC bD [oR aC hx8,oV (aEp G hx9),.z (.int 0),oA (aO aC hx10),oQ (bP (r:=aC) 2 b9 x4),oQ (bP (r:=aC) 2 b9 [x9])] (fr 36 14) [] [(21,some (ar 58 (g6+1) 2 aC x10)),(23,sc [ms 21 (g6+1) 2 aC x10,ms 22 1 9 aG x3])] [] (rk hC [] [12,34,35] [(12,vI (wr (x5+1)))] [] [] ⟨(x10,wr (x5+1)),(g6+1),h,lS⟩)
 ·obtain rfl:=so h
  exact cK (rq hC [] [50] [] [(20,sc [ms 21 g6 2 aC x4,ms 22 1 9 aG x3])] [] (qw (lk hC [.rn 21 0 [] [20,23]] [] [] [(20,sc [ms 0 1 2 aC x4,ms 22 1 9 aG x3]),(23,sc [ms 0 1 2 aC x4,ms 22 1 9 aG x3]),(21,none),(0,some (ar 58 1 2 aC x4))] [(0,true)]) (qw (lk hC [.rn 22 1 [] [20,23]] [] [] [(20,sc [ms 0 1 2 aC x4,ms 1 1 9 aG x3]),(23,sc [ms 0 1 2 aC x4,ms 1 1 9 aG x3]),(22,none),(1,some (ar 87 1 9 aG x3))] [(1,true)]) (qr eW))))
theorem aEo{x}{loop}{by_a2}{r}(h:tL n x loop by_a2=some r):PQ G 43 [V.agg (lO x),vI loop,V.agg (aK by_a2)] (V.agg (lO r)):=by
 unfold tL at h
 refine pq aN Tryz.func43 rfl fun w X hC=> ?_
 refine rq hC [.z (.b (true)),.z (.b (true)),.z (.nat 20)] [3,5,6] [(3,V.tp (kF x)),(5,V.tp (aR by_a2)),(6,V.ref 20 0)] [(20,sc [V.t T.nilS,V.t T.nilS])] [(20,true)] (qs ?_)
 obtain⟨x1,hx1,x2,hx2,h⟩:=cV h
 refine dk hC bD [oC [] [21] (oD G hx1),.z (.at 3),.z (.fz 21 [13] []),oC [] [22] (gX G hx2),.z (.nat 23)] [7,12,13,14,15] [(7,V.ref 23 0)] [(21,none),(22,some (ar 3 1 1 rI x2.coefs)),(23,sc [ms 22 1 1 rI x2.coefs,vI x2.const])] [(21,true),(22,true),(23,true)] ?_
 obtain⟨x3,hx3,h⟩:=bd h
 refine rq hC [.z (.at 4),.z (.fz 22 [] [23]),oC [] [24,25] (aCH G hx3),.z (.nat 26)] [8,16,17,18,19,20] [(8,V.ref 26 0)] [(23,some (E.cells (aK x2))),(22,none),(24,some (ar 58 1 2 aC x3.nest)),(25,some (ar 87 1 9 aG x3.body)),(26,sc [ms 24 1 2 aC x3.nest,ms 25 1 9 aG x3.body])] [(24,true),(25,true),(26,true)] (rq hC [.z (.nat 27)] [9,21] [(9,V.ref 27 0)] [(27,sc [V.t T.nilS,V.t T.nilS])] [(27,true)] (qs (rq hC [] [10] [(10,vI 0)] [] [] (qb (qw (lk hC [.growc 27 0 28 65] [] [] [(28,some (ar 65 1 2 aA [])),(27,sc [ms 28 1 2 aA [],V.t T.nilS])] [(28,true)]) ?_)))))
 refine aZ (γ:=Nat) h (fun x_ g_=>aW [(1,vI loop),(3,V.tp (kF x)),(5,V.tp (aR by_a2)),(6,V.ref 20 0),(8,V.ref 26 0),(9,V.ref 27 0),(10,vI x_.2)] [(20,E.cells [V.t T.nilS,V.t T.nilS]),(23,E.cells (aK x2)),(24,ar 58 1 2 aC x3.nest),(25,ar 87 1 9 aG x3.body),(26,E.cells [ms 24 1 2 aC x3.nest,ms 25 1 9 aG x3.body]),(27,E.cells [ms 28 g_ 2 aA x_.1,V.t T.nilS]),(28,ar 65 g_ 2 aA x_.1)] [20,21,22,23,24,25,26,27,28]) 1 (lS) ?_
 rintro again7 ⟨x4,x5⟩ g6 h
 refine qs ?_
 obtain⟨x8,hx8,h⟩:=bd h
 refine rq hC [oR aC hx8,oN aA x8.lo] (fr 22 9) [(30,vB (decide (x5<(x8.lo.length:Int))))] [] [] (aT h (fun c1 h=> ?_) (fun c1 h=> ?_))
 ·refine qk (qs (qb ?_))
  obtain⟨x9,hx9,x10,hx10,x11,hx11,h⟩:=jI h
  exact dk hC bD [oR aC hx8,oR aA hx9,oC [] [29] (gX G hx10),.z (.at 4),.z (.fz 29 [45] []),.z (.int 0),oA (aO aA hx11),oQ (bP (r:=aA) 2 aU x4),oQ (bP (r:=aA) 2 aU [x10])] (fr 33 16) [] [(29,none),(28,some (ar 65 (g6+1) 2 aA x11)),(27,sc [ms 28 (g6+1) 2 aA x11,V.t T.nilS])] [(29,true)] (rk hC [] [10,31,32] [(10,vI (wr (x5+1)))] [] [] ⟨(x11,wr (x5+1)),(g6+1),h,lS⟩)
 ·refine cK (qs (rq hC [] [11] [(11,vI 0)] [] [] (qb (qw (lk hC [.growc 27 1 29 65] [] [] [(29,some (ar 65 1 2 aA [])),(27,sc [ms 28 g6 2 aA x4,ms 29 1 2 aA []])] [(29,true)]) (aZ (γ:=Nat) h (fun x_ g_=>aW [(1,vI loop),(3,V.tp (kF x)),(5,V.tp (aR by_a2)),(6,V.ref 20 0),(8,V.ref 26 0),(9,V.ref 27 0),(11,vI x_.2)] [(20,E.cells [V.t T.nilS,V.t T.nilS]),(23,E.cells (aK x2)),(24,ar 58 1 2 aC x3.nest),(25,ar 87 1 9 aG x3.body),(26,E.cells [ms 24 1 2 aC x3.nest,ms 25 1 9 aG x3.body]),(27,E.cells [ms 28 g6 2 aA x4,ms 29 g_ 2 aA x_.1]),(28,ar 65 g6 2 aA x4),(29,ar 65 g_ 2 aA x_.1)] [20,21,22,23,24,25,26,27,28,29]) 1 (lS) ?_)))))
  rintro again15 ⟨x12,x13⟩ g14 h
  refine qs (rq hC [oR aC hx8,oN aA x8.hi] (fr 49 9) [(57,vB (decide (x13<(x8.hi.length:Int))))] [] [] (aT h (fun c2 h=> ?_) (fun c2 h=> ?_)))
  ·refine qk (qs (qb ?_))
   obtain⟨x16,hx16,x17,hx17,x18,hx18,h⟩:=jI h
   exact dk hC bD [oR aC hx8,oR aA hx16,oC [] [30] (gX G hx17),.z (.at 4),.z (.fz 30 [72] []),.z (.int 0),oA (aO aA hx18),oQ (bP (r:=aA) 2 aU x12),oQ (bP (r:=aA) 2 aU [x17])] (fr 60 16) [] [(30,none),(29,some (ar 65 (g14+1) 2 aA x18)),(27,sc [ms 28 g6 2 aA x4,ms 29 (g14+1) 2 aA x18])] [(30,true)] (rk hC [] [11,58,59] [(11,vI (wr (x13+1)))] [] [] ⟨(x18,wr (x13+1)),(g14+1),h,lS⟩)
  ·refine cK ?_
   obtain⟨x19,hx19,x20,hx20,h⟩:=cV h
   obtain rfl:=so h
   exact rq hC [.z (.at 3),.z (.fz 28 [] [27]),.z (.at 3),.z (.fz 29 [] [27]),oQ (jO aC hx19),oX aC hx19,.z (.rows (List.map aC x20)),.z (.lenc 26 0 (List.map aC x20).length),oQ (str aC hx20),oQ (gY aC hx20)] (fr 76 5) [] [(27,sc [vM aA x4,vM aA x12]),(28,none),(29,none),(24,some (ar 58 1 2 aC x20)),(26,sc [ms 24 1 2 aC x20,ms 25 1 9 aG x3.body])] [] (rq hC [.z (.at 2),.z (.fz 24 [] [26]),.z (.at 2),.z (.fz 25 [] [26])] [81] [] [(26,sc [vM aC x20,vM aG x3.body]),(24,none),(25,none),(20,sc [vM aC x20,vM aG x3.body])] [] (qr eR))
theorem W4{p}{part}{loop}{by_a3}{r}(h:mR n p part loop by_a3=some r):PQ G 9 [V.agg (bJ p),vI part,vI loop,vI by_a3] (V.tup [V.agg (bJ r.1),vB r.2]):=by
 unfold mR at h
 refine pq aN Tryz.func9 rfl fun w X hC=> ?_
 refine rq hC [.z (.nat 20),.z (.nat 21)] [4,8,9] [(4,V.ref 20 0),(8,V.ref 21 0)] [(20,some (E.cells (bJ p))),(21,sc [V.t T.nilS,V.t T.nilS])] [(20,true),(21,true)] ?_
 obtain⟨x1,hx1,h⟩:=bd h
 refine rq hC [oV (y9 G hx1)] [10,11] [] [(20,some (E.cells (bJ x1)))] [] (qs (vj h (fun x_=>aW [(1,vI part),(2,vI loop),(3,vI by_a3),(4,V.ref 20 0),(8,V.ref 21 0),(21,vB x_)] [(20,E.cells (bJ x1)),(21,E.cells [V.t T.nilS,V.t T.nilS])] [20,21]) (fun j2 h=> ?_) (fun x5 h=> ?_)))
 ·
  obtain⟨x3,hx3,h⟩:=bd h
  refine aS h (fun c1 h=> ?_) (fun c1 h=> ?_)
  ·obtain⟨x4,hx4,h⟩:=bd h
   exact rk hC [oV (aAt G hx3),oF c1,oF c1,oV (nS G hx4),oF c1,oF c1] (fr 12 10) [(21,vB (!x4))] [] [] (lE h)
  ·exact rk hC ([oV (aAt G hx3)]++rT 4 c1) (fr 12 10) [(21,vB true)] [] [] (lE h)
 ·refine aT h (fun c2 h=> ?_) (fun c2 h=> ?_)
  ·obtain rfl:=so h
   exact rq hC [] [9,22] [(9,vB false)] [(21,sc [V.t T.nilS,V.t T.nilS])] [] (qr eR)
  ·refine qk (qs ?_)
   obtain⟨x6,hx6,x7,hx7,x8,hx8,h⟩:=jI h
   obtain⟨x9,hx9,h⟩:=bd h
   obtain rfl:=so h
   exact dk hC bD [oR aD hx6,oC [] [22] (cZ G hx7),.z (.at 7),.z (.fz 22 [32] []),oV (aEo G hx8),.z (.int 0),oV (aEm G hx9)] [9,23,24,25,26,27,28,29,30,31,32,33,34,35,36,37] [(9,vB x9.2)] [(22,none),(21,some (E.cells (bJ x9.1)))] [(22,true)] (qr eR)
theorem nG(G:GS)(n:Nat)(s1:List Arr)(s2:List Arr)(eqF:FuncId)(eq:Arr→Arr→Option Bool)(heq: ∀(q0:Arr) (q1:Arr) r,eq q0 q1=some r→PQ G eqF [V.agg [vS q0.name,vM rI q0.dims],V.agg [vS q1.name,vM rI q1.dims]] (vB r)){r:Bool}(h:hJ n s1 s2 eq=some r):PQ G 51 [vM aI s1,vM aI s2,V.fn eqF []] (vB r):=by
 unfold hJ at h
 refine pq aN Tryz.func51 rfl fun w X hC=> ?_
 refine rq hC [] [6] [] [] [] (qs (rq hC [oN aI s1,oN aI s2] (fr 10 5) [(14,vB (!decide ((s1.length:Int)=(s2.length:Int))))] [] [] (aT h (fun c1 h=> ?_) (fun c1 h=> ?_))))
 ·obtain rfl:=so h
  exact rq hC [] [6] [(6,vB false)] [] [] (qr eR)
 ·refine qk (qs (rq hC [oN aI s1] [15,16,17] [(15,vM aI s1),(16,vI (s1.length:Int)),(17,vI 0)] [] [] (qb (jG h (fun x_=>aW [(1,vM aI s2),(2,V.fn eqF []),(15,vM aI s1),(16,vI (s1.length:Int)),(17,vI x_)] [] []) lS ?_))))
  rintro again2 x1 h
  refine rq hC [] [18] [(18,vB (decide (x1<(s1.length:Int))))] [] [] (qs (aT h (fun c2 h=> ?_) (fun c2 h=> ?_)))
  ·refine qk (qs (qb ?_))
   obtain⟨x3,hx3,h⟩:=bd h
   refine rq hC [oR aI hx3,.z (.nat 20)] [7,8,19,20,21] [(7,vI x1),(8,V.ref 20 0)] [(20,sc [vS x3.name,vM rI x3.dims])] [(20,true)] ?_
   obtain⟨x4,hx4,h⟩:=bd h
   refine rq hC [oR aI hx4,.z (.nat 21)] [9,22,23,24,25] [(9,V.ref 21 0)] [(21,sc [vS x4.name,vM rI x4.dims])] [(21,true)] ?_
   obtain⟨x5,hx5,h⟩:=bd h
   refine rq hC [oV (heq x3 x4 _ hx5)] (fr 26 5) [(30,vB (!x5))] [] [] (aT h (fun c3 h=> ?_) (fun c3 h=> ?_))
   ·obtain rfl:=so h
    exact rq hC [] [6] [(6,vB false)] [] [] (qr eR)
   ·exact qk (rk hC [] [17,31] [(17,vI (wr (x1+1)))] [] [] (lE h))
  ·obtain rfl:=so h
   exact cK (rq hC [] [6] [(6,vB true)] [] [] (qr eR))
theorem xH(G:GS)(n:Nat)(s1:List Part)(s2:List Part)(eqF:FuncId)(eq:Part→Part→Option Bool)(heq: ∀(q0:Part) (q1:Part) r,eq q0 q1=some r→PQ G eqF [V.agg (lO q0),V.agg (lO q1)] (vB r)){r:Bool}(h:iW n s1 s2 eq=some r):PQ G 52 [vM aD s1,vM aD s2,V.fn eqF []] (vB r):=by
 unfold iW at h
 refine pq aN Tryz.func52 rfl fun w X hC=> ?_
 refine rq hC [] [6] [] [] [] (qs (rq hC [oN aD s1,oN aD s2] (fr 10 5) [(14,vB (!decide ((s1.length:Int)=(s2.length:Int))))] [] [] (aT h (fun c1 h=> ?_) (fun c1 h=> ?_))))
 ·obtain rfl:=so h
  exact rq hC [] [6] [(6,vB false)] [] [] (qr eR)
 ·refine qk (qs (rq hC [oN aD s1] [15,16,17] [(15,vM aD s1),(16,vI (s1.length:Int)),(17,vI 0)] [] [] (qb (jG h (fun x_=>aW [(1,vM aD s2),(2,V.fn eqF []),(15,vM aD s1),(16,vI (s1.length:Int)),(17,vI x_)] [] []) lS ?_))))
  rintro again2 x1 h
  refine rq hC [] [18] [(18,vB (decide (x1<(s1.length:Int))))] [] [] (qs (aT h (fun c2 h=> ?_) (fun c2 h=> ?_)))
  ·refine qk (qs (qb ?_))
   obtain⟨x3,hx3,h⟩:=bd h
   refine rq hC [oR aD hx3,.z (.nat 20)] [7,8,19,20,21] [(7,vI x1),(8,V.ref 20 0)] [(20,some (E.cells (lO x3)))] [(20,true)] ?_
   obtain⟨x4,hx4,h⟩:=bd h
   refine rq hC [oR aD hx4,.z (.nat 21)] [9,22,23,24,25] [(9,V.ref 21 0)] [(21,some (E.cells (lO x4)))] [(21,true)] ?_
   obtain⟨x5,hx5,h⟩:=bd h
   refine rq hC [oV (heq x3 x4 _ hx5)] (fr 26 5) [(30,vB (!x5))] [] [] (aT h (fun c3 h=> ?_) (fun c3 h=> ?_))
   ·obtain rfl:=so h
    exact rq hC [] [6] [(6,vB false)] [] [] (qr eR)
   ·exact qk (rk hC [] [17,31] [(17,vI (wr (x1+1)))] [] [] (lE h))
  ·obtain rfl:=so h
   exact cK (rq hC [] [6] [(6,vB true)] [] [] (qr eR))
theorem mM(G:GS)(n:Nat)(s1:List Int)(s2:List Int){r:Bool}(h:d9 n s1 s2=some r):PQ G 46 [vM rI s1,vM rI s2] (vB r):=by
 unfold d9 at h
 refine pq aN Tryz.func46 rfl fun w X hC=> ?_
 refine rq hC [] [4] [] [] [] (qs (rq hC [oN rI s1,oN rI s2] (fr 6 5) [(10,vB (!decide ((s1.length:Int)=(s2.length:Int))))] [] [] (aT h (fun c1 h=> ?_) (fun c1 h=> ?_))))
 ·obtain rfl:=so h
  exact rq hC [] [4] [(4,vB false)] [] [] (qr eR)
 ·refine qk (qs (rq hC [oN rI s1] [11,12,13] [(12,vI (s1.length:Int)),(13,vI 0)] [] [] (qb (jG h (fun x_=>aW [(0,vM rI s1),(1,vM rI s2),(12,vI (s1.length:Int)),(13,vI x_)] [] []) lS ?_))))
  rintro again2 x1 h
  refine rq hC [] [14] [(14,vB (decide (x1<(s1.length:Int))))] [] [] (qs (aT h (fun c2 h=> ?_) (fun c2 h=> ?_)))
  ·refine qk (qs (qb (rq hC [] [5,15] [(5,vI x1)] [] [] (qs ?_))))
   obtain⟨x3,hx3,x4,hx4,h⟩:=cV h
   refine dk hC bD [oR rI hx3,oR rI hx4] (fr 16 9) [(24,vB (!decide (x3=x4)))] [] [] (aT h (fun c3 h=> ?_) (fun c3 h=> ?_))
   ·obtain rfl:=so h
    exact rq hC [] [4] [(4,vB false)] [] [] (qr eR)
   ·exact qk (rk hC [] [13,25] [(13,vI (wr (x1+1)))] [] [] (lE h))
  ·obtain rfl:=so h
   exact cK (rq hC [] [4] [(4,vB true)] [] [] (qr eR))
theorem pV(G:GS)(n:Nat)(x:Arr)(y:Arr){r:Bool}(h:eX n x y=some r):PQ G 45 [V.agg [vS x.name,vM rI x.dims],V.agg [vS y.name,vM rI y.dims]] (vB r):=by
 unfold eX at h
 refine pq aN Tryz.func45 rfl fun w X hC=> ?_
 refine rq hC [.z (.b (true)),.z (.b (true))] [2,3,4] [(2,V.tp [T.str x.name,T.sl (List.map rI x.dims)]),(3,V.tp [T.str y.name,T.sl (List.map rI y.dims)])] [] [] (vj h (fun x_=>aW [(4,vB x_)] [] []) (fun j1 h=> ?_) (fun x3 h=> ?_))
 ·
  refine aS h (fun c1 h=> ?_) (fun c1 h=> ?_)
  ·exact rk hC (rF 6 c1) (fr 4 13) [(4,vB false)] [] [] (lE h)
  ·obtain⟨x2,hx2,h⟩:=bd h
   exact rk hC (rT 5 c1++[oV (mM G n x.dims y.dims hx2),oT c1]) (fr 4 13) [(4,vB x2)] [] [] (lE h)
 ·obtain rfl:=so h
  exact qr eR
theorem xI(G:GS)(n:Nat)(s1:List Loop)(s2:List Loop)(eqF:FuncId)(eq:Loop→Loop→Option Bool)(heq: ∀(q0:Loop) (q1:Loop) r,eq q0 q1=some r→PQ G eqF [V.agg (kN q0),V.agg (kN q1)] (vB r)){r:Bool}(h:iX n s1 s2 eq=some r):PQ G 90 [vM aC s1,vM aC s2,V.fn eqF []] (vB r):=by
 unfold iX at h
 refine pq aN Tryz.func90 rfl fun w X hC=> ?_
 refine rq hC [] [6] [] [] [] (qs (rq hC [oN aC s1,oN aC s2] (fr 10 5) [(14,vB (!decide ((s1.length:Int)=(s2.length:Int))))] [] [] (aT h (fun c1 h=> ?_) (fun c1 h=> ?_))))
 ·obtain rfl:=so h
  exact rq hC [] [6] [(6,vB false)] [] [] (qr eR)
 ·refine qk (qs (rq hC [oN aC s1] [15,16,17] [(15,vM aC s1),(16,vI (s1.length:Int)),(17,vI 0)] [] [] (qb (jG h (fun x_=>aW [(1,vM aC s2),(2,V.fn eqF []),(15,vM aC s1),(16,vI (s1.length:Int)),(17,vI x_)] [] []) lS ?_))))
  rintro again2 x1 h
  refine rq hC [] [18] [(18,vB (decide (x1<(s1.length:Int))))] [] [] (qs (aT h (fun c2 h=> ?_) (fun c2 h=> ?_)))
  ·refine qk (qs (qb ?_))
   obtain⟨x3,hx3,h⟩:=bd h
   refine rq hC [oR aC hx3,.z (.nat 20)] [7,8,19,20,21] [(7,vI x1),(8,V.ref 20 0)] [(20,some (E.cells (kN x3)))] [(20,true)] ?_
   obtain⟨x4,hx4,h⟩:=bd h
   refine rq hC [oR aC hx4,.z (.nat 21)] [9,22,23,24,25] [(9,V.ref 21 0)] [(21,some (E.cells (kN x4)))] [(21,true)] ?_
   obtain⟨x5,hx5,h⟩:=bd h
   refine rq hC [oV (heq x3 x4 _ hx5)] (fr 26 5) [(30,vB (!x5))] [] [] (aT h (fun c3 h=> ?_) (fun c3 h=> ?_))
   ·obtain rfl:=so h
    exact rq hC [] [6] [(6,vB false)] [] [] (qr eR)
   ·exact qk (rk hC [] [17,31] [(17,vI (wr (x1+1)))] [] [] (lE h))
  ·obtain rfl:=so h
   exact cK (rq hC [] [6] [(6,vB true)] [] [] (qr eR))
theorem fG(G:GS)(n:Nat)(s1:List Affine)(s2:List Affine)(eqF:FuncId)(eq:Affine→Affine→Option Bool)(heq: ∀(q0:Affine) (q1:Affine) r,eq q0 q1=some r→PQ G eqF [V.agg (aK q0),V.agg (aK q1)] (vB r)){r:Bool}(h:cU n s1 s2 eq=some r):PQ G 92 [vM aA s1,vM aA s2,V.fn eqF []] (vB r):=by
 unfold cU at h
 refine pq aN Tryz.func92 rfl fun w X hC=> ?_
 refine rq hC [] [6] [] [] [] (qs (rq hC [oN aA s1,oN aA s2] (fr 10 5) [(14,vB (!decide ((s1.length:Int)=(s2.length:Int))))] [] [] (aT h (fun c1 h=> ?_) (fun c1 h=> ?_))))
 ·obtain rfl:=so h
  exact rq hC [] [6] [(6,vB false)] [] [] (qr eR)
 ·refine qk (qs (rq hC [oN aA s1] [15,16,17] [(15,vM aA s1),(16,vI (s1.length:Int)),(17,vI 0)] [] [] (qb (jG h (fun x_=>aW [(1,vM aA s2),(2,V.fn eqF []),(15,vM aA s1),(16,vI (s1.length:Int)),(17,vI x_)] [] []) lS ?_))))
  rintro again2 x1 h
  refine rq hC [] [18] [(18,vB (decide (x1<(s1.length:Int))))] [] [] (qs (aT h (fun c2 h=> ?_) (fun c2 h=> ?_)))
  ·refine qk (qs (qb ?_))
   obtain⟨x3,hx3,h⟩:=bd h
   refine rq hC [oR aA hx3,.z (.nat 20)] [7,8,19,20,21] [(7,vI x1),(8,V.ref 20 0)] [(20,some (E.cells (aK x3)))] [(20,true)] ?_
   obtain⟨x4,hx4,h⟩:=bd h
   refine rq hC [oR aA hx4,.z (.nat 21)] [9,22,23,24,25] [(9,V.ref 21 0)] [(21,some (E.cells (aK x4)))] [(21,true)] ?_
   obtain⟨x5,hx5,h⟩:=bd h
   refine rq hC [oV (heq x3 x4 _ hx5)] (fr 26 5) [(30,vB (!x5))] [] [] (aT h (fun c3 h=> ?_) (fun c3 h=> ?_))
   ·obtain rfl:=so h
    exact rq hC [] [6] [(6,vB false)] [] [] (qr eR)
   ·exact qk (rk hC [] [17,31] [(17,vI (wr (x1+1)))] [] [] (lE h))
  ·obtain rfl:=so h
   exact cK (rq hC [] [6] [(6,vB true)] [] [] (qr eR))
theorem eP(G:GS)(n:Nat)(a:Affine)(b:Affine){r:Bool}(h:cI n a b=some r):PQ G 93 [V.agg (aK a),V.agg (aK b)] (vB r):=by
 unfold cI at h
 refine pq aN Tryz.func93 rfl fun w X hC=> ?_
 refine rq hC [.z (.b (true)),.z (.b (true))] [2,3,4] [(2,V.tp (aR a)),(3,V.tp (aR b))] [] [] (vj h (fun x_=>aW [(4,vB x_)] [] []) (fun j1 h=> ?_) (fun x3 h=> ?_))
 ·
  obtain⟨x2,hx2,h⟩:=bd h
  refine aS h (fun c1 h=> ?_) (fun c1 h=> ?_)
  ·exact rk hC ([oV (mM G n a.coefs b.coefs hx2)]++rF 6 c1) (fr 4 13) [(4,vB false)] [] [] (lE h)
  ·exact rk hC ([oV (mM G n a.coefs b.coefs hx2)]++rT 6 c1) (fr 4 13) [(4,vB (decide (a.const=b.const)))] [] [] (lE h)
 ·obtain rfl:=so h
  exact qr eR
theorem U2(G:GS)(n:Nat)(x:Loop)(y:Loop){r:Bool}(h:lH n x y=some r):PQ G 91 [V.agg (kN x),V.agg (kN y)] (vB r):=by
 unfold lH at h
 refine pq aN Tryz.func91 rfl fun w X hC=> ?_
 refine rq hC [.z (.b (true)),.z (.b (true))] [2,3,4] [(2,V.tp (vX x)),(3,V.tp (vX y))] [] [] (vj h (fun x_=>aW [(4,vB x_)] [] []) (fun j1 h=> ?_) (fun x4 h=> ?_))
 ·
  obtain⟨x2,hx2,h⟩:=bd h
  refine aS h (fun c1 h=> ?_) (fun c1 h=> ?_)
  ·exact rk hC ([oV (fG G n x.lo y.lo 93 (fun q0 q1=>cI n q0 q1) (fun q0 q1 r h=>eP G n q0 q1 h) hx2)]++rF 6 c1) (fr 4 13) [(4,vB false)] [] [] (lE h)
  ·obtain⟨x3,hx3,h⟩:=bd h
   exact rk hC ([oV (fG G n x.lo y.lo 93 (fun q0 q1=>cI n q0 q1) (fun q0 q1 r h=>eP G n q0 q1 h) hx2)]++rT 5 c1++[oV (fG G n x.hi y.hi 93 (fun q0 q1=>cI n q0 q1) (fun q0 q1 r h=>eP G n q0 q1 h) hx3),oT c1]) (fr 4 13) [(4,vB x3)] [] [] (lE h)
 ·obtain rfl:=so h
  exact qr eR
theorem zG{a}{b}{r}(h:o8 n a b=some r):PQ G 48 [vM aC a,vM aC b] (vB r):=by
 unfold o8 at h
 refine pq aN Tryz.func48 rfl fun w X hC=> ?_
 refine rq hC [] [4] [] [] [] ?_
 obtain⟨x1,hx1,h⟩:=bd h
 obtain rfl:=so h
 exact rq hC [oV (xI G n a b 91 (fun q0 q1=>lH n q0 q1) (fun q0 q1 r h=>U2 G n q0 q1 h) hx1)] (fr 4 4) [(4,vB x1)] [] [] (qr eR)
theorem xG(G:GS)(n:Nat)(s1:List Stmt)(s2:List Stmt)(eqF:FuncId)(eq:Stmt→Stmt→Option Bool)(heq: ∀(q0:Stmt) (q1:Stmt) r,eq q0 q1=some r→PQ G eqF [V.agg (cR q0),V.agg (cR q1)] (vB r)){r:Bool}(h:iV n s1 s2 eq=some r):PQ G 49 [vM aG s1,vM aG s2,V.fn eqF []] (vB r):=by
 unfold iV at h
 refine pq aN Tryz.func49 rfl fun w X hC=> ?_
 refine rq hC [] [6] [] [] [] (qs (rq hC [oN aG s1,oN aG s2] (fr 10 5) [(14,vB (!decide ((s1.length:Int)=(s2.length:Int))))] [] [] (aT h (fun c1 h=> ?_) (fun c1 h=> ?_))))
 ·obtain rfl:=so h
  exact rq hC [] [6] [(6,vB false)] [] [] (qr eR)
 ·refine qk (qs (rq hC [oN aG s1] [15,16,17] [(15,vM aG s1),(16,vI (s1.length:Int)),(17,vI 0)] [] [] (qb (jG h (fun x_=>aW [(1,vM aG s2),(2,V.fn eqF []),(15,vM aG s1),(16,vI (s1.length:Int)),(17,vI x_)] [] []) lS ?_))))
  rintro again2 x1 h
  refine rq hC [] [18] [(18,vB (decide (x1<(s1.length:Int))))] [] [] (qs (aT h (fun c2 h=> ?_) (fun c2 h=> ?_)))
  ·refine qk (qs (qb ?_))
   obtain⟨x3,hx3,h⟩:=bd h
   refine rq hC [oR aG hx3,.z (.nat 20)] [7,8,19,20,21] [(7,vI x1),(8,V.ref 20 0)] [(20,some (E.cells (cR x3)))] [(20,true)] ?_
   obtain⟨x4,hx4,h⟩:=bd h
   refine rq hC [oR aG hx4,.z (.nat 21)] [9,22,23,24,25] [(9,V.ref 21 0)] [(21,some (E.cells (cR x4)))] [(21,true)] ?_
   obtain⟨x5,hx5,h⟩:=bd h
   refine rq hC [oV (heq x3 x4 _ hx5)] (fr 26 5) [(30,vB (!x5))] [] [] (aT h (fun c3 h=> ?_) (fun c3 h=> ?_))
   ·obtain rfl:=so h
    exact rq hC [] [6] [(6,vB false)] [] [] (qr eR)
   ·exact qk (rk hC [] [17,31] [(17,vI (wr (x1+1)))] [] [] (lE h))
  ·obtain rfl:=so h
   exact cK (rq hC [] [6] [(6,vB true)] [] [] (qr eR))
theorem lN{a}{b}{r}(h:iZ n a b=some r):PQ G 94 [V.agg (cD a),V.agg (cD b)] (vB r):=by
 unfold iZ at h
 refine pq aN Tryz.func94 rfl fun w X hC=> ?_
 refine rq hC [.z (.b (true)),.z (.b (true))] [2,3,4] [(2,V.tp (dO a)),(3,V.tp (dO b))] [] [] (vj h (fun x_=>aW [(4,vB x_)] [] []) (fun j1 h=> ?_) (fun x3 h=> ?_))
 ·
  refine aS h (fun c1 h=> ?_) (fun c1 h=> ?_)
  ·exact rk hC (rF 6 c1) (fr 4 13) [(4,vB false)] [] [] (lE h)
  ·obtain⟨x2,hx2,h⟩:=bd h
   exact rk hC (rT 5 c1++[oV (fG G n a.subs b.subs 93 (fun q0 q1=>cI n q0 q1) (fun q0 q1 r h=>eP G n q0 q1 h) hx2),oT c1]) (fr 4 13) [(4,vB x2)] [] [] (lE h)
 ·obtain rfl:=so h
  exact qr eR
theorem xJ(G:GS)(n:Nat)(s1:List Expr)(s2:List Expr)(eqF:FuncId)(eq:Expr→Expr→Option Bool)(heq: ∀(q0:Expr) (q1:Expr) r,eq q0 q1=some r→PQ G eqF [V.agg (dB q0),V.agg (dB q1)] (vB r)){r:Bool}(h:iY n s1 s2 eq=some r):PQ G 139 [vM aJ s1,vM aJ s2,V.fn eqF []] (vB r):=by
 unfold iY at h
 refine pq aN Tryz.func139 rfl fun w X hC=> ?_
 refine rq hC [] [6] [] [] [] (qs (rq hC [oN aJ s1,oN aJ s2] (fr 10 5) [(14,vB (!decide ((s1.length:Int)=(s2.length:Int))))] [] [] (aT h (fun c1 h=> ?_) (fun c1 h=> ?_))))
 ·obtain rfl:=so h
  exact rq hC [] [6] [(6,vB false)] [] [] (qr eR)
 ·refine qk (qs (rq hC [oN aJ s1] [15,16,17] [(15,vM aJ s1),(16,vI (s1.length:Int)),(17,vI 0)] [] [] (qb (jG h (fun x_=>aW [(1,vM aJ s2),(2,V.fn eqF []),(15,vM aJ s1),(16,vI (s1.length:Int)),(17,vI x_)] [] []) lS ?_))))
  rintro again2 x1 h
  refine rq hC [] [18] [(18,vB (decide (x1<(s1.length:Int))))] [] [] (qs (aT h (fun c2 h=> ?_) (fun c2 h=> ?_)))
  ·refine qk (qs (qb ?_))
   obtain⟨x3,hx3,h⟩:=bd h
   refine rq hC [.z (.row (eM x3)),.z (.nat 20),oQ (fO aJ hx3 (dC x3))] [7,8,19,20,21] [(7,vI x1),(8,V.ref 20 0)] [(20,some (E.cells (dB x3)))] [(20,true)] ?_
   obtain⟨x4,hx4,h⟩:=bd h
   refine rq hC [.z (.row (eM x4)),.z (.nat 21),oQ (fO aJ hx4 (dC x4))] [9,22,23,24,25] [(9,V.ref 21 0)] [(21,some (E.cells (dB x4)))] [(21,true)] ?_
   obtain⟨x5,hx5,h⟩:=bd h
   refine rq hC [oV (heq x3 x4 _ hx5)] (fr 26 5) [(30,vB (!x5))] [] [] (aT h (fun c3 h=> ?_) (fun c3 h=> ?_))
   ·obtain rfl:=so h
    exact rq hC [] [6] [(6,vB false)] [] [] (qr eR)
   ·exact qk (rk hC [] [17,31] [(17,vI (wr (x1+1)))] [] [] (lE h))
  ·obtain rfl:=so h
   exact cK (rq hC [] [6] [(6,vB true)] [] [] (qr eR))
theorem aBt(G:GS): ∀(n:Nat) (a:Expr) (b:Expr) {r:Bool} (h:i_exprSame n a b=some r),PQ G 95 [V.agg (dB a),V.agg (dB b)] (vB r):=by
 intro n
 induction n with
 |zero=>intro a b r h;rw [i_exprSame.eq_def] at h;cases h
 |succ n ih=>
  intro a b r h
  rw [i_exprSame.eq_def] at h;dsimp only at h
  refine pq aN Tryz.func95 rfl fun w X hC=> ?_
  refine rq hC [.z (.b (true)),.z (.b (true))] [2,3,4] [(2,V.tp (fM a)),(3,V.tp (fM b))] [] [] (vj h (fun x_=>aW [(4,vB x_)] [] []) (fun j1 h=> ?_) (fun x5 h=> ?_))
  ·
   refine aS h (fun c1 h=> ?_) (fun c1 h=> ?_)
   ·exact rk hC (rF 6 c1++sF 18) (fr 4 34) [(4,vB false)] [] [] (lE h)
   ·refine aS h (fun c2 h=> ?_) (fun c2 h=> ?_)
    ·exact rk hC (rT 6 c1++rF 6 c2++sF 12) (fr 4 34) [(4,vB false)] [] [] (lE h)
    ·obtain⟨x2,hx2,h⟩:=bd h
     refine aS h (fun c3 h=> ?_) (fun c3 h=> ?_)
     ·exact rk hC (rT 6 c1++rT 5 c2++[oV (eP G n a.index b.index hx2),oT c2]++rF 6 c3++sF 6) (fr 4 34) [(4,vB false)] [] [] (lE h)
     ·obtain⟨x3,hx3,h⟩:=bd h
      refine aS h (fun c4 h=> ?_) (fun c4 h=> ?_)
      ·exact rk hC (rT 6 c1++rT 5 c2++[oV (eP G n a.index b.index hx2),oT c2]++rT 5 c3++[oV (lN G hx3),oT c3]++rF 6 c4) (fr 4 34) [(4,vB false)] [] [] (lE h)
      ·obtain⟨x4,hx4,h⟩:=bd h
       exact rk hC (rT 6 c1++rT 5 c2++[oV (eP G n a.index b.index hx2),oT c2]++rT 5 c3++[oV (lN G hx3),oT c3]++rT 5 c4++[oV (xJ G n a.kids b.kids 95 (fun q0 q1=>i_exprSame n q0 q1) (fun q0 q1 r h=>ih q0 q1 h) hx4),oT c4]) (fr 4 34) [(4,vB x4)] [] [] (lE h)
  ·obtain rfl:=so h
   exact qr eR
theorem aBu(G:GS)(n:Nat)(a:Stmt)(b:Stmt){r:Bool}(h:l9 n a b=some r):PQ G 50 [V.agg (cR a),V.agg (cR b)] (vB r):=by
 unfold l9 at h
 refine pq aN Tryz.func50 rfl fun w X hC=> ?_
 refine rq hC [.z (.b (true)),.z (.b (true))] [2,3,4] [(2,V.tp (oG a)),(3,V.tp (oG b))] [] [] (vj h (fun x_=>aW [(4,vB x_)] [] []) (fun j1 h=> ?_) (fun x4 h=> ?_))
 ·
  obtain⟨x2,hx2,h⟩:=bd h
  refine aS h (fun c1 h=> ?_) (fun c1 h=> ?_)
  ·exact rk hC ([oV (lN G hx2)]++rF 6 c1) (fr 4 13) [(4,vB false)] [] [] (lE h)
  ·obtain⟨x3,hx3,h⟩:=bd h
   exact rk hC ([oV (lN G hx2)]++rT 5 c1++[oV (aBt G n a.value b.value hx3),oT c1]) (fr 4 13) [(4,vB x3)] [] [] (lE h)
 ·obtain rfl:=so h
  exact qr eR
theorem zF(G:GS)(n:Nat)(x:Part)(y:Part){r:Bool}(h:eV n x y=some r):PQ G 47 [V.agg (lO x),V.agg (lO y)] (vB r):=by
 unfold eV at h
 refine pq aN Tryz.func47 rfl fun w X hC=> ?_
 refine rq hC [.z (.b (true)),.z (.b (true))] [2,3,4] [(2,V.tp (kF x)),(3,V.tp (kF y))] [] [] (vj h (fun x_=>aW [(4,vB x_)] [] []) (fun j1 h=> ?_) (fun x4 h=> ?_))
 ·
  obtain⟨x2,hx2,h⟩:=bd h
  refine aS h (fun c1 h=> ?_) (fun c1 h=> ?_)
  ·exact rk hC ([oV (zG G hx2)]++rF 6 c1) (fr 4 13) [(4,vB false)] [] [] (lE h)
  ·obtain⟨x3,hx3,h⟩:=bd h
   exact rk hC ([oV (zG G hx2)]++rT 5 c1++[oV (xG G n x.body y.body 50 (fun q0 q1=>l9 n q0 q1) (fun q0 q1 r h=>aBu G n q0 q1 h) hx3),oT c1]) (fr 4 13) [(4,vB x3)] [] [] (lE h)
 ·obtain rfl:=so h
  exact qr eR
theorem nC{a}{b}{r}(h:eB n a b=some r):PQ G 10 [V.agg (bJ a),V.agg (bJ b)] (vB r):=by
 unfold eB at h
 refine pq aN Tryz.func10 rfl fun w X hC=> ?_
 refine rq hC [.z (.b (true)),.z (.b (true))] [2,3,4] [(2,V.tp (cF a)),(3,V.tp (cF b))] [] [] (rq hC [] [5] [(5,V.fn 45 [])] [] [] (rq hC [] [6] [(6,V.fn 47 [])] [] [] (vj h (fun x_=>aW [(4,vB x_)] [] []) (fun j1 h=> ?_) (fun x4 h=> ?_))))
 ·
  obtain⟨x2,hx2,h⟩:=bd h
  refine aS h (fun c1 h=> ?_) (fun c1 h=> ?_)
  ·exact rk hC ([oV (nG G n a.arrays b.arrays 45 (fun q0 q1=>eX n q0 q1) (fun q0 q1 r h=>pV G n q0 q1 h) hx2)]++rF 7 c1) [4,7,8,9,10,11,12,13,14,15,16,17,18,19,20] [(4,vB false)] [] [] (lE h)
  ·obtain⟨x3,hx3,h⟩:=bd h
   exact rk hC ([oV (nG G n a.arrays b.arrays 45 (fun q0 q1=>eX n q0 q1) (fun q0 q1 r h=>pV G n q0 q1 h) hx2)]++rT 6 c1++[oV (xH G n a.parts b.parts 47 (fun q0 q1=>eV n q0 q1) (fun q0 q1 r h=>zF G n q0 q1 h) hx3),oT c1]) [4,7,8,9,10,11,12,13,14,15,16,17,18,19,20] [(4,vB x3)] [] [] (lE h)
 ·obtain rfl:=so h
  exact qr eR
theorem w5{a}{b}{r}(h:qI n a b=some r):PQ G 11 [vM rI a,vM rI b] (vB r):=by
 unfold qI at h
 refine pq aN Tryz.func11 rfl fun w X hC=> ?_
 refine rq hC [] [4] [] [] [] (qs (rq hC [oN rI a,oN rI b] (fr 6 5) [(10,vB (!decide ((a.length:Int)=(b.length:Int))))] [] [] (aT h (fun c1 h=> ?_) (fun c1 h=> ?_))))
 ·obtain rfl:=so h
  exact rq hC [] [4] [(4,vB false)] [] [] (qr eR)
 ·refine qk (qs (rq hC [] [5] [(5,vI 0)] [] [] (qb (jG h (fun x_=>aW [(0,vM rI a),(1,vM rI b),(5,vI x_)] [] []) lS ?_))))
  rintro again2 x1 h
  refine qs (rq hC [oN rI a] (fr 11 4) [(14,vB (decide (x1<(a.length:Int))))] [] [] (aT h (fun c2 h=> ?_) (fun c2 h=> ?_)))
  ·refine qk (qs (qb (qs ?_)))
   obtain⟨x3,hx3,x4,hx4,h⟩:=cV h
   refine dk hC bD [oR rI hx3,oR rI hx4] (fr 17 9) [(25,vB (!decide (x3=x4)))] [] [] (aT h (fun c3 h=> ?_) (fun c3 h=> ?_))
   ·obtain rfl:=so h
    exact rq hC [] [4] [(4,vB false)] [] [] (qr eR)
   ·exact qk (rk hC [] [5,15,16] [(5,vI (wr (x1+1)))] [] [] (lE h))
  ·obtain rfl:=so h
   exact cK (rq hC [] [4] [(4,vB true)] [] [] (qr eR))
theorem aEH{list}{r}(h:uG n list=some r):VQ G 56 [] [vM rB list] (ms 0 1 1 rI r) [ar 3 1 1 rI r]:=by
 unfold uG at h
 refine vq aN Tryz.func56 rfl fun w X β0 hC hg=> ?_
 refine rq hC [] [2] [] [] [] (rq hC [] [3] [(3,V.t T.nilS)] [] [] (qs (rq hC [oN rB list] [6,7,8] [(6,vM rB list),(7,vI (list.length:Int)),(8,vI 0)] [] [] (qb (qw (lk hC [.grow 3 20 3] [3] [(3,ms 20 1 1 rI [])] [(20,some (ar 3 1 1 rI []))] [(20,true)]) ?_)))))
 refine aZ (γ:=Nat) h (fun x_ g_=>aW [(3,ms 20 g_ 1 rI x_.1),(6,vM rB list),(7,vI (list.length:Int)),(8,vI x_.2)] [(20,ar 3 g_ 1 rI x_.1)] [20]) 1 (lS) ?_
 rintro again4 ⟨x1,x2⟩ g3 h
 refine rq hC [] [9] [(9,vB (decide (x2<(list.length:Int))))] [] [] (qs (aT h (fun c1 h=> ?_) (fun c1 h=> ?_)))
 ·refine qk ?_
  obtain⟨j5,hj5,h⟩:=A8 h
  refine kQ (γ:=Nat) (j:=j5) (r:=r) (fun x_ g_=>aW [(3,ms 20 g_ 1 rI x_),(6,vM rB list),(7,vI (list.length:Int)),(8,vI x2)] [(20,ar 3 g_ 1 rI x_)] [20]) ?_ ?_
  ·
   refine qb ?_
   obtain⟨x6,hx6,h⟩:=bd h
   refine rq hC [oR rB hx6] [4,5,10,11,12] [(4,vI x2),(5,vB x6)] [] [] (rq hC [] [13] [(13,vB x6)] [] [] (aT h (fun c2 h=> ?_) (fun c2 h=> ?_)))
   ·obtain⟨x7,hx7,h⟩:=bd h
    exact rk hC [.z (.int 0),oA (aO rI hx7),oQ (bP (r:=rI) 1 (fun _=>rfl) x1),oQ (bP (r:=rI) 1 (fun _=>rfl) [x2])] [3,14,15,16,17] [(3,ms 20 (g3+1) 1 rI x7)] [(20,some (ar 3 (g3+1) 1 rI x7))] [] ⟨x7,(g3+1),h,lS⟩
   ·exact qk ⟨x1,g3,h,lS⟩
  ·rintro x8 g9 h
   subst hj5
   exact rk hC [] [8,18] [(8,vI (wr (x2+1)))] [] [] ⟨(x8,wr (x2+1)),g9,h,lS⟩
 ·obtain rfl:=so h
  exact cK (rq hC [] [2,19] [(2,ms 20 g3 1 rI x1)] [] [] (qw (lk hC [.ren 2 20 0] [2] [(2,ms 0 1 1 rI x1)] [(0,some (ar 3 1 1 rI x1)),(20,none)] [(0,true)]) (qr eW)))
theorem C5{p}{x}{r}(h:iL n p x=some r):PQ G 140 [V.agg (bJ p),V.agg (zI x)] (V.agg (cR r)):=by
 unfold iL at h
 refine pq aN Tryz.func140 rfl fun w X hC=> ?_
 refine rq hC [.z (.b (true)),.z (.b (true)),.z (.nat 20)] [2,3,4] [(2,V.tp (cF p)),(3,V.tp (aG7 x)),(4,V.ref 20 0)] [(20,sc [vS [],V.t T.nilS,vI 0,vI 0,V.t T.nilS,vI 0,vS [],V.t T.nilS,V.t T.nilS])] [(20,true)] (qs ?_)
 obtain⟨x1,hx1,x2,hx2,h⟩:=cV h
 obtain rfl:=so h
 exact dk hC bD [oR aD hx1,oR aG hx2] (fr 5 11) [] [(20,some (E.cells (cR x2)))] [] (qr eR)
theorem vU{p}{x}{r}(h:fE n p x=some r):VQ G 96 [] [V.agg (bJ p),V.agg (zI x)] (V.tup [ms 0 1 1 rI r.1,vI r.2]) [ar 3 1 1 rI r.1]:=by
 unfold fE at h
 refine vq aN Tryz.func96 rfl fun w X β0 hC hg=> ?_
 refine rq hC [.z (.b (true)),.z (.b (true))] (fr 2 4) [(2,V.tp (cF p)),(3,V.tp (aG7 x))] [] [] ?_
 obtain⟨x1,hx1,h⟩:=bd h
 refine rq hC [oV (C5 G hx1),.z (.nat 20)] [6,10,11,12] [(6,V.ref 20 0)] [(20,some (E.cells (cR x1)))] [(20,true)] (rq hC [] [7] [(7,V.t T.nilS)] [] [] (qs ?_))
 obtain⟨x2,hx2,h⟩:=bd h
 refine rq hC [oC [] [21] (aAu G n x1.value hx2),oN aV x2] (fr 13 5) [(15,ms 21 1 2 aV x2),(16,vI (x2.length:Int)),(17,vI 0)] [(21,some (ar 82 1 2 aV x2))] [(21,true)] (qb (qw (lk hC [.grow 7 22 3] [7] [(7,ms 22 1 1 rI [])] [(22,some (ar 3 1 1 rI []))] [(22,true)]) (aZ (γ:=Nat) h (fun x_ g_=>aW [(2,V.tp (cF p)),(3,V.tp (aG7 x)),(6,V.ref 20 0),(7,ms 22 g_ 1 rI x_.1),(15,ms 21 1 2 aV x2),(16,vI (x2.length:Int)),(17,vI x_.2)] [(20,E.cells (cR x1)),(21,ar 82 1 2 aV x2),(22,ar 3 g_ 1 rI x_.1)] [20,21,22]) 1 (lS) ?_)))
 rintro again6 ⟨x3,x4⟩ g5 h
 refine rq hC [] [18] [(18,vB (decide (x4<(x2.length:Int))))] [] [] (qs (aT h (fun c1 h=> ?_) (fun c1 h=> ?_)))
 ·refine qk (qs (qb ?_))
  obtain⟨x7,hx7,h⟩:=bd h
  refine rq hC [oQ (jO aV hx7),oX aV hx7,.z (.nat 23)] [9,19,20] [(9,V.ref 23 0)] [(23,some (E.cells (cD x7)))] [(23,true)] ?_
  obtain⟨x8,hx8,x9,hx9,h⟩:=cV h
  exact rk hC [oV (fZ G hx8),.z (.int 0),oA (aO rI hx9),oQ (bP (r:=rI) 1 (fun _=>rfl) x3),oQ (bP (r:=rI) 1 (fun _=>rfl) [x8])] [7,21,22,23,24,25,26,27,28] [(7,ms 22 (g5+1) 1 rI x9)] [(22,some (ar 3 (g5+1) 1 rI x9))] [] (rk hC [] [17,29] [(17,vI (wr (x4+1)))] [] [] ⟨(x9,wr (x4+1)),(g5+1),h,lS⟩)
 ·refine cK ?_
  obtain⟨x10,hx10,h⟩:=bd h
  obtain rfl:=so h
  exact rq hC [oV (fZ G hx10)] [4,5,30,31,32,33,34,35,36] [(4,ms 22 g5 1 rI x3),(5,vI x10)] [] [] (qw (lk hC [.ren 4 22 0] [4] [(4,ms 0 1 1 rI x3)] [(0,some (ar 3 1 1 rI x3)),(22,none)] [(0,true)]) (qr eW))
theorem vN{p}{r}(h:vC n p=some r):PQ G 53 [V.agg (bJ p)] (V.tup [vP aJD r.1,vB r.2]):=by
 unfold vC at h
 refine pmr aN Tryz.func53 rfl rfl rfl rfl rfl (aMX _ _ _) rfl ?_
 intro w X hC
 refine rq hC [.z (.b (true))] [1,2,3] [(1,V.tp (cF p))] [] [] ?_
 obtain⟨x1,hx1,h⟩:=bd h
 refine rq hC [oC [] [20] (lU G hx1)] [4,5,11,12,13,14,15] [(4,ms 20 1 3 bH x1.1),(5,vB x1.2)] [(20,some (ar 135 1 3 bH x1.1))] [(20,true)] (qs (rq hC [] [16,17] [(17,vB (!x1.2))] [] [] (aT h (fun c1 h=> ?_) (fun c1 h=> ?_))))
 ·obtain rfl:=so h
  exact rq hC [] [2,3] [(2,V.t T.nilP),(3,vB false)] [] [] (qr eR)
 ·refine qk (rq hC [.z (.nat 21)] [6,18,19,20,21] [(6,V.ref 21 0)] [(21,sc [vM aI p.arrays,vM aD p.parts,ms 20 1 3 bH x1.1,V.t T.nilS,V.t T.nilS])] [(21,true)] (qs (rq hC [oN bH x1.1] [22,23,24] [(22,ms 20 1 3 bH x1.1),(23,vI (x1.1.length:Int)),(24,vI 0)] [] [] (qb (qw (lk hC [.growc 21 3 22 33] [] [] [(22,some (ar 33 1 1 (rL rI) [])),(21,sc [vM aI p.arrays,vM aD p.parts,ms 20 1 3 bH x1.1,ms 22 1 1 (rL rI) [],V.t T.nilS])] [(22,true)]) ?_)))))
  refine qw (lk hC [.growc 21 4 23 3] [] [] [(23,some (ar 3 1 1 rI [])),(21,sc [vM aI p.arrays,vM aD p.parts,ms 20 1 3 bH x1.1,ms 22 1 1 (rL rI) [],ms 23 1 1 rI []])] [(23,true)]) (aZ (γ:=Nat×Nat) h (fun x_ g_=>aW [(1,V.tp (cF p)),(6,V.ref 21 0),(22,ms 20 1 3 bH x1.1),(23,vI (x1.1.length:Int)),(24,vI x_.2.2)] [(20,ar 135 1 3 bH x1.1),(21,E.cells [vM aI p.arrays,vM aD p.parts,ms 20 1 3 bH x1.1,ms 22 g_.1 1 (rL rI) x_.1,ms 23 g_.2 1 rI x_.2.1]),(22,ar 33 g_.1 1 (rL rI) x_.1),(23,ar 3 g_.2 1 rI x_.2.1)] [20,21,22,23]) (1,1) (lS) ?_)
  rintro again7 ⟨x2,x3,x4⟩ ⟨g5,g6⟩ h
  refine rq hC [] [25] [(25,vB (decide (x4<(x1.1.length:Int))))] [] [] (qs (aT h (fun c2 h=> ?_) (fun c2 h=> ?_)))
  ·refine qk (qs (qb ?_))
   obtain⟨x8,hx8,h⟩:=bd h
   refine rq hC [oQ (jO bH hx8),oX bH hx8,.z (.nat 24)] [8,26,27] [(8,V.ref 24 0)] [(24,some (E.cells (zI x8)))] [(24,true)] ?_
   obtain⟨x9,hx9,h⟩:=bd h
   refine rq hC [oC [] [25] (vU G hx9)] [9,10,28,29,30,31,32,33] [(9,ms 25 1 1 rI x9.1),(10,vI x9.2)] [(25,some (ar 3 1 1 rI x9.1))] [(25,true)] ?_
   obtain⟨x10,hx10,x11,hx11,h⟩:=cV h
   exact dk hC bD [.z (.at 15),.z (.fz 25 [9,40] []),.z (.int 0),oA (aO (rL rI) hx10),.z (.int 0),oQ (bP (r:=(rL rI)) 1 (fun _=>rfl) x2),oQ (bP (r:=(rL rI)) 1 (fun _=>rfl) [x9.1]),oA (aO rI hx11),oQ (bP (r:=rI) 1 (fun _=>rfl) x3),oQ (bP (r:=rI) 1 (fun _=>rfl) [x9.2])] [9,34,35,36,37,38,39,40,41,42,43,44,45,46,47,48,49,50,51,52,53] [] [(25,none),(22,some (ar 33 (g5+1) 1 (rL rI) x10)),(23,some (ar 3 (g6+1) 1 rI x11)),(21,sc [vM aI p.arrays,vM aD p.parts,ms 20 1 3 bH x1.1,ms 22 (g5+1) 1 (rL rI) x10,ms 23 (g6+1) 1 rI x11])] [] (rk hC [] [24,54] [(24,vI (wr (x4+1)))] [] [] ⟨(x10,x11,wr (x4+1)),((g5+1),(g6+1)),h,lS⟩)
  ·obtain rfl:=so h
   exact cK (rq hC [] [2,3,55] [(2,V.ref 21 0),(3,vB true)] [] [] (qw (lk hC [.fz 20 [22] [21],.fz 22 [] [21],.fz 23 [] [21],.fp 21 [2,6]] [2,6,22] [(2,V.tp [T.sl (List.map aI p.arrays),T.sl (List.map aD p.parts),T.sl (List.map bH x1.1),T.sl (List.map (rL rI) x2),T.sl (List.map rI x3)]),(6,V.tp [T.sl (List.map aI p.arrays),T.sl (List.map aD p.parts),T.sl (List.map bH x1.1),T.sl (List.map (rL rI) x2),T.sl (List.map rI x3)]),(22,vM bH x1.1)] [(21,none),(20,none),(22,none),(23,none)] []) (qr eR)))
theorem W5{s}{v}{r}(h:pO n s v=some r):PQ G 115 [vM rI s,vI v] (vI r):=by
 unfold pO at h
 refine pq aN Tryz.func115 rfl fun w X hC=> ?_
 refine rq hC [] [4] [] [] [] (qs (rq hC [oN rI s] [6,7,8] [(7,vI (s.length:Int)),(8,vI 0)] [] [] (qb (jG h (fun x_=>aW [(0,vM rI s),(1,vI v),(7,vI (s.length:Int)),(8,vI x_)] [] []) lS ?_))))
 rintro again2 x1 h
 refine rq hC [] [9] [(9,vB (decide (x1<(s.length:Int))))] [] [] (qs (aT h (fun c1 h=> ?_) (fun c1 h=> ?_)))
 ·refine qk (qs (qb (rq hC [] [5,10] [(5,vI x1)] [] [] ?_)))
  obtain⟨x3,hx3,h⟩:=bd h
  refine rq hC [oR rI hx3] (fr 11 6) [(16,vB (decide (v=x3)))] [] [] (aT h (fun c2 h=> ?_) (fun c2 h=> ?_))
  ·obtain rfl:=so h
   exact rq hC [] [4,17] [(4,vI x1)] [] [] (qr eR)
  ·exact qk (rk hC [] [8,18] [(8,vI (wr (x1+1)))] [] [] (lE h))
 ·obtain rfl:=so h
  exact cK (rq hC [] [4] [(4,vI (-1))] [] [] (qr eR))
theorem rC{s}{v}{r}(h:fU n s v=some r):PQ G 186 [vM rI s,vI v] (vB r):=by
 unfold fU at h
 refine pq aN Tryz.func186 rfl fun w X hC=> ?_
 refine rq hC [] [4] [] [] [] ?_
 obtain⟨x1,hx1,h⟩:=bd h
 obtain rfl:=so h
 exact rq hC [oV (W5 G hx1)] (fr 4 5) [(4,vB (decide ((0:Int)≤x1)))] [] [] (qr eR)
theorem xL{t}{from_a1}{to_a2}{r}(h:fW n t from_a1 to_a2=some r):PQ G 145 [V.tp [T.sl (List.map aI t.program.arrays),T.sl (List.map aD t.program.parts),T.sl (List.map bH t.list),T.sl (List.map (rL rI) t.reads),T.sl (List.map rI t.writes)],vI from_a1,vI to_a2] (vI r):=by
 unfold fW at h
 refine pq aN Tryz.func145 rfl fun w X hC=> ?_
 refine rq hC [] [6] [] [] [] (rq hC [] [7] [(7,vI 0)] [] [] (vj h (fun x_=>aW [(0,V.tp [T.sl (List.map aI t.program.arrays),T.sl (List.map aD t.program.parts),T.sl (List.map bH t.list),T.sl (List.map (rL rI) t.reads),T.sl (List.map rI t.writes)]),(1,vI from_a1),(2,vI to_a2),(7,vI x_)] [] []) (fun j1 h=> ?_) (fun x5 h=> ?_)))
 ·
  refine qs ?_
  obtain⟨x2,hx2,x3,hx3,x4,hx4,h⟩:=jI h
  refine dk hC bD [oR (rL rI) hx2,oR rI hx3,oV (rC G hx4)] (fr 8 15) [(22,vB x4)] [] [] (aT h (fun c1 h=> ?_) (fun c1 h=> ?_))
  ·exact rk hC [] [7,23,24] [(7,vI (wr (0+1)))] [] [] (lE h)
  ·exact qk (lE h)
 ·refine vj h (fun x_=>aW [(0,V.tp [T.sl (List.map aI t.program.arrays),T.sl (List.map aD t.program.parts),T.sl (List.map bH t.list),T.sl (List.map (rL rI) t.reads),T.sl (List.map rI t.writes)]),(1,vI from_a1),(2,vI to_a2),(7,vI x_)] [] []) (fun j6 h=> ?_) (fun x10 h=> ?_)
  ·
   refine qs ?_
   obtain⟨x7,hx7,x8,hx8,x9,hx9,h⟩:=jI h
   refine dk hC bD [oR (rL rI) hx7,oR rI hx8,oV (rC G hx9)] (fr 25 15) [(39,vB x9)] [] [] (aT h (fun c2 h=> ?_) (fun c2 h=> ?_))
   ·exact rk hC [] [7,40,41] [(7,vI (wr (x5+2)))] [] [] (lE h)
   ·exact qk (lE h)
  ·refine vj h (fun x_=>aW [(7,vI x_)] [] []) (fun j11 h=> ?_) (fun x14 h=> ?_)
   ·
    refine qs ?_
    obtain⟨x12,hx12,x13,hx13,h⟩:=cV h
    refine dk hC bD [oR rI hx12,oR rI hx13] (fr 42 15) [(56,vB (decide (x12=x13)))] [] [] (aT h (fun c3 h=> ?_) (fun c3 h=> ?_))
    ·exact rk hC [] [7,57,58] [(7,vI (wr (x10+4)))] [] [] (lE h)
    ·exact qk (lE h)
   ·obtain rfl:=so h
    exact rq hC [] [6,59] [(6,vI x14)] [] [] (qr eR)
theorem G8{t}{r}(h:jP n t=some r):VQ G 98 [] [V.tp [T.sl (List.map aI t.program.arrays),T.sl (List.map aD t.program.parts),T.sl (List.map bH t.list),T.sl (List.map (rL rI) t.reads),T.sl (List.map rI t.writes)]] (ms 0 1 3 jL r) [ar 141 1 3 jL r]:=by
 unfold jP at h
 refine vq aN Tryz.func98 rfl fun w X β0 hC hg=> ?_
 refine rq hC [] [2] [] [] [] (rq hC [] [3] [(3,V.t T.nilS)] [] [] (qs (rq hC [oN bH t.list] (fr 7 6) [(11,vI (t.list.length:Int)),(12,vI 0)] [] [] (qb (qw (lk hC [.grow 3 20 141] [3] [(3,ms 20 1 3 jL [])] [(20,some (ar 141 1 3 jL []))] [(20,true)]) ?_)))))
 refine aZ (γ:=Nat) h (fun x_ g_=>aW [(0,V.tp [T.sl (List.map aI t.program.arrays),T.sl (List.map aD t.program.parts),T.sl (List.map bH t.list),T.sl (List.map (rL rI) t.reads),T.sl (List.map rI t.writes)]),(3,ms 20 g_ 3 jL x_.1),(11,vI (t.list.length:Int)),(12,vI x_.2)] [(20,ar 141 g_ 3 jL x_.1)] [20]) 1 (lS) ?_
 rintro again4 ⟨x1,x2⟩ g3 h
 refine rq hC [] [13] [(13,vB (decide (x2<(t.list.length:Int))))] [] [] (qs (aT h (fun c1 h=> ?_) (fun c1 h=> ?_)))
 ·refine qk (qs (qb (rq hC [] [4,14] [(4,vI x2)] [] [] (rq hC [] [5,15,16] [(5,vI (wr (x2+1)))] [] [] (qb (aZ (γ:=Nat) h (fun x_ g_=>aW [(0,V.tp [T.sl (List.map aI t.program.arrays),T.sl (List.map aD t.program.parts),T.sl (List.map bH t.list),T.sl (List.map (rL rI) t.reads),T.sl (List.map rI t.writes)]),(3,ms 20 g_ 3 jL x_.1),(4,vI x2),(5,vI x_.2),(11,vI (t.list.length:Int)),(12,vI x2)] [(20,ar 141 g_ 3 jL x_.1)] [20]) g3 (lS) ?_))))))
  rintro again8 ⟨x5,x6⟩ g7 h
  refine qs (rq hC [oN bH t.list] (fr 17 7) [(23,vB (decide (x6<(t.list.length:Int))))] [] [] (aT h (fun c2 h=> ?_) (fun c2 h=> ?_)))
  ·refine qk ?_
   obtain⟨j9,hj9,h⟩:=A8 h
   refine kQ (γ:=Nat) (j:=j9) (r:=r) (fun x_ g_=>aW [(0,V.tp [T.sl (List.map aI t.program.arrays),T.sl (List.map aD t.program.parts),T.sl (List.map bH t.list),T.sl (List.map (rL rI) t.reads),T.sl (List.map rI t.writes)]),(3,ms 20 g_ 3 jL x_),(4,vI x2),(5,vI x6),(11,vI (t.list.length:Int)),(12,vI x2)] [(20,ar 141 g_ 3 jL x_)] [20]) ?_ ?_
   ·
    refine qb ?_
    obtain⟨x10,hx10,h⟩:=bd h
    refine rq hC [oV (xL G hx10)] [6,26,27,28,29] [(6,vI x10)] [] [] (rq hC [] [30,31] [(31,vB (decide ((0:Int)<x10)))] [] [] (aT h (fun c3 h=> ?_) (fun c3 h=> ?_)))
    ·obtain⟨x11,hx11,h⟩:=bd h
     exact rk hC [.z (.int 0),oA (aO jL hx11),oQ (bP (r:=jL) 3 aB5 x5),oQ (bP (r:=jL) 3 aB5 [(⟨x2,x6,x10⟩:Dep)])] [3,32,33,34,35,36,37,38] [(3,ms 20 (g7+1) 3 jL x11)] [(20,some (ar 141 (g7+1) 3 jL x11))] [] ⟨x11,(g7+1),h,lS⟩
    ·exact qk ⟨x5,g7,h,lS⟩
   ·rintro x12 g13 h
    subst hj9
    exact rk hC [] [5,24,25] [(5,vI (wr (x6+1)))] [] [] ⟨(x12,wr (x6+1)),g13,h,lS⟩
  ·exact cK (rk hC [] [12,39] [(12,vI (wr (x2+1)))] [] [] ⟨(x5,wr (x2+1)),g7,h,lS⟩)
 ·obtain rfl:=so h
  exact cK (rq hC [] [2,40] [(2,ms 20 g3 3 jL x1)] [] [] (qw (lk hC [.ren 2 20 0] [2] [(2,ms 0 1 3 jL x1)] [(0,some (ar 141 1 3 jL x1)),(20,none)] [(0,true)]) (qr eW)))
theorem aLu{α:Type}{l:List α}{o m:Nat}{i:Int}{x:α}(h:ixv l o m i=some x):0≤i∧i<(m:Int):=by
 unfold ixv at h
 split at h
 ·assumption
 ·cases h
theorem aLt{α:Type}{l:List α}{o m:Nat}{i:Int}{x:α}(f:α→List T)(h:ixv l o m i=some x):(l.map f)[o+i.toNat]? =some (f x):=by
 unfold ixv at h
 split at h
 ·rw [List.getElem?_map,h];rfl
 ·cases h
theorem tG(G:GS)(n:Nat)(s:List (List Int))(fF:FuncId)(f:List Int→List Int→Option Bool)(hf: ∀(x y:List Int) {r:Bool},f x y=some r→PQ G fF [vM rI x,vM rI y] (vB r))(gs:Nat){r:Nat×List (List Int)}(h:d6 n s f=some r):
  VQ G 101 [ar 33 gs 1 (rL rI) s] [ms 0 gs 1 (rL rI) s,V.fn fF []] (ms 0 gs 1 (rL rI) (r.2.take r.1)) [ar 33 gs 1 (rL rI) r.2]:=by
 unfold d6 at h
 refine vq aN Tryz.func101 rfl fun w X β0 hC hg=> ?_
 refine rq hC [] [4] [] [] [] (qs (rq hC [oN (rL rI) s] [8,9,10] [(10,vB (decide ((s.length:Int)<2)))] [] [] (aT h (fun c1 h=> ?_) (fun c1 h=> ?_))))
 ·obtain rfl:=so h
  exact rq hC [.z (.at 0),.z (.len 4 (List.map (rL rI) (s.take s.length)).length),oQ (aKu (rL rI) s)] [4,11] [(4,ms 0 gs 1 (rL rI) (s.take s.length))] [] [] (qr eW)
 ·refine qk (qs (rq hC [] [5] [(5,vI 1)] [] [] (qb (jG h (fun x_=>aW [(0,ms 0 gs 1 (rL rI) s),(1,V.fn fF []),(5,vI x_)] [(0,ar 33 gs 1 (rL rI) s)] [0]) lS ?_))))
  rintro again1 k h
  refine qs (rq hC [oN (rL rI) s] (fr 12 4) [(15,vB (decide (k<(s.length:Int))))] [] [] (aT h (fun c2 h=> ?_) (fun c2 h=> ?_)))
  ·refine qk (qs (qb (qs ?_)))
   obtain⟨x1,hx1,x2,hx2,x3,hx3,h⟩:=jI h
   refine dk hC bD [.z (.row (rL rI x1)),.z (.row (rL rI x2)),oQ (jO (rL rI) hx1),oQ (uD (rL rI) hx1),oQ (jO (rL rI) hx2),oQ (uD (rL rI) hx2),oV (hf x1 x2 hx3)] (fr 18 11) [(28,vB x3)] [] [] (aT h (fun c3 h=> ?_) (fun c3 h=> ?_))
   ·have k0:=(jO (rL rI) hx1).1
    refine rq hC [.z (.nat k.toNat),.z (.nat (s.length-k.toNat)),oQ (aBT (rL rI) s k0 (of_decide_eq_true c2))] [6,29,30,31] [(6,V.msl 0 gs 1 k.toNat (s.length-k.toNat))] [] [] (qs (rq hC [] [7] [(7,vI 1)] [] [] (qb (jG h (fun x_=>aW [(0,ms 0 gs 1 (rL rI) x_.1.1),(1,V.fn fF []),(5,vI x_.1.2),(6,V.msl 0 gs 1 k.toNat (s.length-k.toNat)),(7,vI x_.2)] [(0,ar 33 gs 1 (rL rI) x_.1.1)] [0]) lS ?_))))
    rintro again2 ⟨⟨l,i⟩,k2⟩ h
    refine qs (rq hC [.z (.nat (s.length-k.toNat)),oQ (Eq.refl (s.length-k.toNat))] (fr 32 4) [(35,vB (decide (k2<((s.length-k.toNat:Nat):Int))))] [] [] (aT h (fun c4 h=> ?_) (fun c4 h=> ?_)))
    ·refine qk (qs (qb (qs ?_)))
     obtain⟨y1,hy1,h⟩:=bd h
     obtain⟨y2,hy2,h⟩:=bd h
     obtain⟨y3,hy3,h⟩:=bd h
     refine dk hC bD [.z (.row (rL rI y1)),.z (.row (rL rI y2)),oQ (aLu hy1),oQ (aLt (rL rI) hy1),oQ (aLu hy2),oQ (aLt (rL rI) hy2),oV (hf y1 y2 hy3)] (fr 38 12) [(49,vB (!y3))] [] [] (aT h (fun c5 h=> ?_) (fun c5 h=> ?_))
     ·refine qs ?_
      obtain⟨y4,hy4,h⟩:=bd h
      obtain⟨y5,hy5,h⟩:=bd h
      exact rk hC [.z (.row (rL rI y1)),.z (.row (rL rI y4)),.z (.rows (List.map (rL rI) y5)),.z (.len 0 (List.map (rL rI) y5).length),oQ (aLu hy1),oQ (aLt (rL rI) hy1),oQ (jO (rL rI) hy4),oQ (uD (rL rI) hy4),oQ (str (rL rI) hy5),oQ (gY (rL rI) hy5)] [0,50,51,52,53,54,55,56] [(0,ms 0 gs 1 (rL rI) y5)] [(0,some (ar 33 gs 1 (rL rI) y5))] [] (rk hC [] [5,57,58] [(5,vI (wr (i+1)))] [] [] (rk hC [] [7,36,37] [(7,vI (wr (k2+1)))] [] [] (lE h)))
     ·exact qk (rk hC [] [7,36,37] [(7,vI (wr (k2+1)))] [] [] (lE h))
    ·refine cK (aS h (fun c6 h=> ?_) (fun c6 h=> ?_))
     ·exact nof h
     ·refine aS h (fun c7 h=> ?_) (fun c7 h=> ?_)
      ·exact nof h
      ·obtain rfl:=so h
       exact rq hC [.z (.nat i.toNat),.z (.nat (l.length-i.toNat)),.z (.rows (List.map (rL rI) (l.take i.toNat++List.replicate (l.length-i.toNat) ([]:List Int)))),oQ (aBT (rL rI) l (of_decide_eq_true c6) (of_decide_eq_true c7)),oQ (aGq (rL rI) l ([]:List Int) (of_decide_eq_true c6) (of_decide_eq_true c7))] [59,60,61] [] [(0,some (ar 33 gs 1 (rL rI) (l.take i.toNat++List.replicate (l.length-i.toNat) ([]:List Int))))] [] (rq hC [.z (.nat 0),.z (.nat (List.map (rL rI) ((l.take i.toNat++List.replicate (l.length-i.toNat) ([]:List Int)).take i.toNat)).length),oQ (aKZ (rL rI) l ([]:List Int) (of_decide_eq_true c6) (of_decide_eq_true c7))] [4,62,63,64] [(4,ms 0 gs 1 (rL rI) ((l.take i.toNat++List.replicate (l.length-i.toNat) ([]:List Int)).take i.toNat))] [] [] (qr eW))
   ·exact qk (rk hC [] [5,16,17] [(5,vI (wr (k+1)))] [] [] (lE h))
  ·obtain rfl:=so h
   exact cK (rq hC [.z (.at 0),.z (.len 4 (List.map (rL rI) (s.take s.length)).length),oQ (aKu (rL rI) s)] [4,65] [(4,ms 0 gs 1 (rL rI) (s.take s.length))] [] [] (qr eW))
theorem aJw{x r:List (List Int)}(h:m_sortL x=some r):(List.map (rL rI) x).length=(List.map (rL rI) r).length:=by
 unfold m_sortL at h
 split at h
 ·cases h
  simp [kH]
 ·cases h
theorem m5{t}{part}{r}(h:dM n t part=some r):PQ G 57 [V.tp [T.sl (List.map aI t.program.arrays),T.sl (List.map aD t.program.parts),T.sl (List.map bH t.list),T.sl (List.map (rL rI) t.reads),T.sl (List.map rI t.writes)],vI part] (vM (rL rI) r):=by
 unfold dM at h
 refine pq aN Tryz.func57 rfl fun w X hC=> ?_
 refine rq hC [] [4] [] [] [] (rq hC [] [5] [(5,V.t T.nilS)] [] [] (qs ?_))
 obtain⟨x1,hx1,h⟩:=bd h
 refine rq hC [oC [] [20] (G8 G hx1),oN jL x1] (fr 12 4) [(13,ms 20 1 3 jL x1),(14,vI (x1.length:Int)),(15,vI 0)] [(20,some (ar 141 1 3 jL x1))] [(20,true)] (qb (qw (lk hC [.grow 5 21 33] [5] [(5,ms 21 1 1 (rL rI) [])] [(21,some (ar 33 1 1 (rL rI) []))] [(21,true)]) (aZ (γ:=Nat) h (fun x_ g_=>aW [(0,V.tp [T.sl (List.map aI t.program.arrays),T.sl (List.map aD t.program.parts),T.sl (List.map bH t.list),T.sl (List.map (rL rI) t.reads),T.sl (List.map rI t.writes)]),(1,vI part),(5,ms 21 g_ 1 (rL rI) x_.1),(13,ms 20 1 3 jL x1),(14,vI (x1.length:Int)),(15,vI x_.2)] [(20,ar 141 1 3 jL x1),(21,ar 33 g_ 1 (rL rI) x_.1)] [20,21]) 1 (lS) ?_)))
 rintro again5 ⟨x2,x3⟩ g4 h
 refine rq hC [] [16] [(16,vB (decide (x3<(x1.length:Int))))] [] [] (qs (aT h (fun c1 h=> ?_) (fun c1 h=> ?_)))
 ·refine qk ?_
  obtain⟨j6,hj6,h⟩:=A8 h
  refine kQ (γ:=Nat) (j:=j6) (r:=r) (fun x_ g_=>aW [(0,V.tp [T.sl (List.map aI t.program.arrays),T.sl (List.map aD t.program.parts),T.sl (List.map bH t.list),T.sl (List.map (rL rI) t.reads),T.sl (List.map rI t.writes)]),(1,vI part),(5,ms 21 g_ 1 (rL rI) x_.1),(13,ms 20 1 3 jL x1),(14,vI (x1.length:Int)),(15,vI x3)] [(20,ar 141 1 3 jL x1),(21,ar 33 g_ 1 (rL rI) x_.1),(22,E.cells [vI x_.2.1,vI x_.2.2.1,vI x_.2.2.2.1]),(23,E.cells [vI x_.2.2.2.2.1,vI x_.2.2.2.2.2.1,vM rI x_.2.2.2.2.2.2.1]),(24,E.cells [vI x_.2.2.2.2.2.2.2.1,vI x_.2.2.2.2.2.2.2.2.1,vM rI x_.2.2.2.2.2.2.2.2.2])] [20,21,22,23,24]) ?_ ?_
  ·
   refine qb ?_
   obtain⟨x7,hx7,h⟩:=bd h
   refine rq hC [oQ (jO jL hx7),oX jL hx7,.z (.nat 22)] [7,17,18] [(7,V.ref 22 0)] [(22,sc [vI x7.fromF,vI x7.toF,vI x7.kinds])] [(22,true)] (qs ?_)
   obtain⟨x8,hx8,x9,hx9,h⟩:=cV h
   refine dk hC bD [oR bH hx8,oR bH hx9,.z (.nat 23),.z (.nat 24)] [8,9,19,20,21,22,23,24,25,26,27,28,29,30,31,32,33,34] [(8,V.ref 23 0),(9,V.ref 24 0)] [(23,some (E.cells (zI x8))),(24,some (E.cells (zI x9)))] [(23,true),(24,true)] (qs (vj h (fun x_=>aW [(0,V.tp [T.sl (List.map aI t.program.arrays),T.sl (List.map aD t.program.parts),T.sl (List.map bH t.list),T.sl (List.map (rL rI) t.reads),T.sl (List.map rI t.writes)]),(1,vI part),(5,ms 21 g4 1 (rL rI) x2),(8,V.ref 23 0),(9,V.ref 24 0),(13,ms 20 1 3 jL x1),(14,vI (x1.length:Int)),(15,vI x3),(44,vB x_)] [(20,ar 141 1 3 jL x1),(21,ar 33 g4 1 (rL rI) x2),(22,E.cells [vI x7.fromF,vI x7.toF,vI x7.kinds]),(23,E.cells (zI x8)),(24,E.cells (zI x9))] [20,21,22,23,24]) (fun j10 h=> ?_) (fun x11 h=> ?_)))
   ·
    refine aS h (fun c2 h=> ?_) (fun c2 h=> ?_)
    ·exact rk hC (rF 5 c2) (fr 35 10) [(44,vB (!decide (x9.part=part)))] [] [] (lE h)
    ·exact rk hC (rT 5 c2) (fr 35 10) [(44,vB true)] [] [] (lE h)
   ·refine aT h (fun c3 h=> ?_) (fun c3 h=> ?_)
    ·exact cK ⟨(x2,x7.fromF,x7.toF,x7.kinds,x8.part,x8.stmt,x8.point,x9.part,x9.stmt,x9.point),g4,h,lS⟩
    ·refine qk (rq hC [] [10] [(10,V.t T.nilS)] [] [] (qs (rq hC [oN rI x9.point] (fr 45 4) [(47,vI (x9.point.length:Int)),(48,vI 0)] [] [] (qb (qw (lk hC [.grow 10 25 3] [10] [(10,ms 25 1 1 rI [])] [(25,some (ar 3 1 1 rI []))] [(25,true)]) ?_)))))
     refine aZ (γ:=Nat) h (fun x_ g_=>aW [(0,V.tp [T.sl (List.map aI t.program.arrays),T.sl (List.map aD t.program.parts),T.sl (List.map bH t.list),T.sl (List.map (rL rI) t.reads),T.sl (List.map rI t.writes)]),(1,vI part),(5,ms 21 g4 1 (rL rI) x2),(8,V.ref 23 0),(9,V.ref 24 0),(10,ms 25 g_ 1 rI x_.1),(13,ms 20 1 3 jL x1),(14,vI (x1.length:Int)),(15,vI x3),(47,vI (x9.point.length:Int)),(48,vI x_.2)] [(20,ar 141 1 3 jL x1),(21,ar 33 g4 1 (rL rI) x2),(22,E.cells [vI x7.fromF,vI x7.toF,vI x7.kinds]),(23,E.cells (zI x8)),(24,E.cells (zI x9)),(25,ar 3 g_ 1 rI x_.1)] [20,21,22,23,24,25]) 1 (lS) ?_
     rintro again15 ⟨x12,x13⟩ g14 h
     refine rq hC [] [49] [(49,vB (decide (x13<(x9.point.length:Int))))] [] [] (qs (aT h (fun c4 h=> ?_) (fun c4 h=> ?_)))
     ·refine qk (qs (qb (rq hC [] [11,50] [(11,vI x13)] [] [] ?_)))
      obtain⟨x16,hx16,x17,hx17,x18,hx18,h⟩:=jI h
      exact dk hC bD [oR rI hx16,oR rI hx17,.z (.int 0),oA (aO rI hx18),oQ (bP (r:=rI) 1 (fun _=>rfl) x12),oQ (bP (r:=rI) 1 (fun _=>rfl) [wr (x16-x17)])] [10,51,52,53,54,55,56,57,58,59,60,61,62,63,64] [(10,ms 25 (g14+1) 1 rI x18)] [(25,some (ar 3 (g14+1) 1 rI x18))] [] (rk hC [] [48,65] [(48,vI (wr (x13+1)))] [] [] ⟨(x18,wr (x13+1)),(g14+1),h,lS⟩)
     ·refine cK ?_
      obtain⟨x19,hx19,h⟩:=bd h
      exact rk hC [.z (.at 3),.z (.fz 25 [10,67] []),.z (.int 0),oA (aO (rL rI) hx19),oQ (bP (r:=(rL rI)) 1 (fun _=>rfl) x2),oQ (bP (r:=(rL rI)) 1 (fun _=>rfl) [x12])] [5,10,66,67,68,69] [(5,ms 21 (g4+1) 1 (rL rI) x19)] [(25,none),(21,some (ar 33 (g4+1) 1 (rL rI) x19))] [] ⟨(x19,x7.fromF,x7.toF,x7.kinds,x8.part,x8.stmt,x8.point,x9.part,x9.stmt,x9.point),(g4+1),h,lS⟩
  ·rintro⟨x20,x21,x22,x23,x24,x25,x26,x27,x28,x29⟩ g30 h
   subst hj6
   exact rk hC [] [15,70] [(15,vI (wr (x3+1)))] [] [] ⟨(x20,wr (x3+1)),g30,h,lS⟩
 ·refine cK ?_
  obtain⟨x31,hx31,h⟩:=bd h
  refine rq hC [oC [21] [] (G.sort x2 g4 hx31),.z (.len 5 (List.map (rL rI) x31).length),oQ (aJw hx31)] [5,71,72] [(5,ms 21 g4 1 (rL rI) x31)] [(21,some (ar 33 g4 1 (rL rI) x31))] [(21,true)] ?_
  obtain⟨x33,hx33,h⟩:=bd h
  obtain rfl:=so h
  exact rq hC [oC [21] [] (tG G n x31 46 (fun q0 q1=>d9 n q0 q1) (fun q0 q1 r h=>mM G n q0 q1 h) g4 hx33),.z (.cut 21 x33.1 (List.map (rL rI) (x33.2.take x33.1))),oQ (aM7 (rL rI) x33.2 x33.1)] [4,5,73,74] [(4,ms 21 g4 1 (rL rI) (x33.2.take x33.1))] [(21,some (ar 33 g4 1 (rL rI) (x33.2.take x33.1)))] [(21,true)] (qw (lk hC [.fz 21 [4] []] [4] [(4,vM (rL rI) (x33.2.take x33.1))] [(21,none)] []) (qr eR))
theorem C6(G:GS)(n:Nat)(n_a0:Int){r:Bool}(h:lJ n n_a0=some r):PQ G 144 [vI n_a0] (vB r):=by
 unfold lJ at h
 refine pq aN Tryz.func144 rfl fun w X hC=> ?_
 obtain rfl:=so h
 exact rq hC [] [2] [] [] [] (rq hC [] [2,3,4] [(2,vB (!decide (n_a0=0)))] [] [] (qr eR))
theorem U4{d}{r}(h:lK n d=some r):PQ G 97 [vM rI d] (vI r):=by
 unfold lK at h
 refine pq aN Tryz.func97 rfl fun w X hC=> ?_
 refine rq hC [] [2] [] [] [] ?_
 obtain⟨x1,hx1,h⟩:=bd h
 obtain rfl:=so h
 exact rq hC [oV (pU G n d 144 (fun q0=>lJ n q0) (fun q0 r h=>C6 G n q0 h) hx1)] [2,3,4] [(2,vI x1)] [] [] (qr eR)
theorem xK{t}{part}{r}(h:fV n t part=some r):VQ G 55 [] [V.tp [T.sl (List.map aI t.program.arrays),T.sl (List.map aD t.program.parts),T.sl (List.map bH t.list),T.sl (List.map (rL rI) t.reads),T.sl (List.map rI t.writes)],vI part] (ms 0 1 1 rB r) [ar 4 1 1 rB r]:=by
 unfold fV at h
 refine vq aN Tryz.func55 rfl fun w X β0 hC hg=> ?_
 refine rq hC [] [4] [] [] [] ?_
 obtain⟨x1,hx1,x2,hx2,h⟩:=cV h
 refine rq hC [oR aD hx1,oN aC x1.nest,.z (.nat 20),oA (aHx rB hx2),oQ (H8 hx2).1] [5,9,10,11,12,13,14,15,16,17,18,19] [(5,ms 20 1 1 rB x2)] [(20,some (ar 4 1 1 rB x2))] [(20,true)] (qs ?_)
 obtain⟨x3,hx3,h⟩:=bd h
 refine rq hC [oV (m5 G hx3),oN (rL rI) x3] (fr 20 5) [(22,vM (rL rI) x3),(23,vI (x3.length:Int)),(24,vI 0)] [] [] (qb (aZ (γ:=Nat) h (fun x_ g_=>aW [(5,ms 20 g_ 1 rB x_.1),(22,vM (rL rI) x3),(23,vI (x3.length:Int)),(24,vI x_.2)] [(20,ar 4 g_ 1 rB x_.1)] [20]) 1 (lS) ?_))
 rintro again7 ⟨x4,x5⟩ g6 h
 refine rq hC [] [25] [(25,vB (decide (x5<(x3.length:Int))))] [] [] (qs (aT h (fun c1 h=> ?_) (fun c1 h=> ?_)))
 ·refine qk (vj h (fun x_=>aW [(5,ms 20 g6 1 rB x_),(22,vM (rL rI) x3),(23,vI (x3.length:Int)),(24,vI x5)] [(20,ar 4 g6 1 rB x_)] [20]) (fun j8 h=> ?_) (fun x13 h=> ?_))
  ·
   refine qb ?_
   obtain⟨x9,hx9,h⟩:=bd h
   refine rq hC [oR (rL rI) hx9] [7,26,27] [(7,vM rI x9)] [] [] ?_
   obtain⟨x10,hx10,h⟩:=bd h
   refine rq hC [oV (U4 G hx10)] [8,28,29] [(8,vI x10)] [] [] (rq hC [] [30,31] [(31,vB (decide ((0:Int)≤x10)))] [] [] (aT h (fun c2 h=> ?_) (fun c2 h=> ?_)))
   ·obtain⟨x11,hx11,x12,hx12,h⟩:=cV h
    exact rk hC [oQ (jO rB hx11),oX rB hx11,.z (.rows (List.map rB x12)),.z (.len 5 (List.map rB x12).length),oQ (str rB hx12),oQ (gY rB hx12)] [5,32,33,34] [(5,ms 20 g6 1 rB x12)] [(20,some (ar 4 g6 1 rB x12))] [] (lE h)
   ·exact qk (lE h)
  ·exact rk hC [] [24,35] [(24,vI (wr (x5+1)))] [] [] ⟨(x13,wr (x5+1)),g6,h,lS⟩
 ·obtain rfl:=so h
  exact cK (rq hC [] [4,36] [(4,ms 20 g6 1 rB x4)] [] [] (qw (lk hC [.ren 4 20 0] [4] [(4,ms 0 1 1 rB x4)] [(0,some (ar 4 1 1 rB x4)),(20,none)] [(0,true)]) (qr eW)))
theorem iA{p}{part}{r}(h:eY n p part=some r):VQ G 12 [] [V.agg (bJ p),vI part] (ms 0 1 1 rI r) [ar 3 1 1 rI r]:=by
 unfold eY at h
 refine vq aN Tryz.func12 rfl fun w X β0 hC hg=> ?_
 refine rq hC [.z (.b (true))] [2,4] [(2,V.tp (cF p))] [] [] (qs ?_)
 obtain⟨x1,hx1,h⟩:=bd h
 refine aS h (fun c1 h=> ?_) (fun c1 h=> ?_)
 ·refine rk hC [.z (.v (V.tup [V.t T.nilP,vB x1.2])),oQ (vPn c1 (vN G hx1))] [5,6,10,11,12,13,14] [(5,V.t T.nilP),(6,vB x1.2)] [] [] (qs (vj h (fun x_=>aW [(1,vI part),(5,V.t T.nilP),(22,vB x_)] [] []) (fun j2 h=> ?_) (fun x4 h=> ?_)))
  ·
   refine aS h (fun c2 h=> ?_) (fun c2 h=> ?_)
   ·obtain⟨x3,hx3,h⟩:=bd h
    exact rk hC (rF 3 c2++[oV (bI G hx3),oF c2,oF c2]) (fr 15 8) [(22,vB (!x3))] [] [] (lE h)
   ·exact rk hC (rT 5 c2) (fr 15 8) [(22,vB true)] [] [] (lE h)
  ·refine aT h (fun c3 h=> ?_) (fun c3 h=> ?_)
   ·obtain rfl:=so h
    exact rq hC [] [4] [(4,V.t T.nilS)] [] [] (qw (lk hC [.grow 4 0 3] [4] [(4,ms 0 1 1 rI [])] [(0,some (ar 3 1 1 rI []))] [(0,true)]) (qr eW))
   ·exact qk (qs (nof h))
 ·refine rk hC [.z (.v (V.tup [V.tp [T.sl (List.map aI (((x1.1.getD default).program).arrays)),T.sl (List.map aD (((x1.1.getD default).program).parts)),T.sl (List.map bH ((x1.1.getD default).list)),T.sl (List.map (rL rI) ((x1.1.getD default).reads)),T.sl (List.map rI ((x1.1.getD default).writes))],vB x1.2])),oQ (vPs c1 (vN G hx1))] [5,6,10,11,12,13,14] [(5,V.tp [T.sl (List.map aI (((x1.1.getD default).program).arrays)),T.sl (List.map aD (((x1.1.getD default).program).parts)),T.sl (List.map bH ((x1.1.getD default).list)),T.sl (List.map (rL rI) ((x1.1.getD default).reads)),T.sl (List.map rI ((x1.1.getD default).writes))]),(6,vB x1.2)] [] [] (qs (vj h (fun x_=>aW [(1,vI part),(5,V.tp [T.sl (List.map aI (((x1.1.getD default).program).arrays)),T.sl (List.map aD (((x1.1.getD default).program).parts)),T.sl (List.map bH ((x1.1.getD default).list)),T.sl (List.map (rL rI) ((x1.1.getD default).reads)),T.sl (List.map rI ((x1.1.getD default).writes))]),(22,vB x_)] [] []) (fun j5 h=> ?_) (fun x7 h=> ?_)))
  ·
   refine aS h (fun c4 h=> ?_) (fun c4 h=> ?_)
   ·obtain⟨x6,hx6,h⟩:=bd h
    exact rk hC (rF 3 c4++[oV (bI G hx6),oF c4,oF c4]) (fr 15 8) [(22,vB (!x6))] [] [] (lE h)
   ·exact rk hC (rT 5 c4) (fr 15 8) [(22,vB true)] [] [] (lE h)
  ·refine aT h (fun c5 h=> ?_) (fun c5 h=> ?_)
   ·obtain rfl:=so h
    exact rq hC [] [4] [(4,V.t T.nilS)] [] [] (qw (lk hC [.grow 4 0 3] [4] [(4,ms 0 1 1 rI [])] [(0,some (ar 3 1 1 rI []))] [(0,true)]) (qr eW))
   ·refine qk ?_
    obtain⟨x8,hx8,h⟩:=bd h
    refine rq hC [oC [] [20] (xK G hx8)] [7,23,24,25] [(7,ms 20 1 1 rB x8)] [(20,some (ar 4 1 1 rB x8))] [(20,true)] (qs (rq hC [oN rB x8] [26,27,28] [(26,ms 20 1 1 rB x8),(27,vI (x8.length:Int)),(28,vI 0)] [] [] (qb (aZ (γ:=Nat) h (fun x_ g_=>aW [(7,ms 20 g_ 1 rB x_.1),(26,ms 20 g_ 1 rB x_.1),(27,vI (x8.length:Int)),(28,vI x_.2)] [(20,ar 4 g_ 1 rB x_.1)] [20]) 1 (lS) ?_))))
    rintro again12 ⟨x9,x10⟩ g11 h
    refine rq hC [] [29] [(29,vB (decide (x10<(x8.length:Int))))] [] [] (qs (aT h (fun c6 h=> ?_) (fun c6 h=> ?_)))
    ·refine qk (qs (qb ?_))
     obtain⟨x13,hx13,h⟩:=bd h
     refine rq hC [oQ (jO rB hx13),oX rB hx13] [8,9,30,31,32] [(8,vI x10),(9,vB x13)] [] [] ?_
     obtain⟨x14,hx14,h⟩:=bd h
     exact rk hC [oQ (jO rB hx13),oX rB hx13,.z (.rows (List.map rB x14)),.z (.len 7 (List.map rB x14).length),.z (.len 26 (List.map rB x14).length),oQ (str rB hx14),oQ (gY rB hx14),oQ (gY rB hx14)] [7,26,33,34,35,36,37] [(7,ms 20 g11 1 rB x14),(26,ms 20 g11 1 rB x14)] [(20,some (ar 4 g11 1 rB x14))] [] (rk hC [] [28,38] [(28,vI (wr (x10+1)))] [] [] ⟨(x14,wr (x10+1)),g11,h,lS⟩)
    ·refine cK ?_
     obtain⟨x15,hx15,h⟩:=bd h
     obtain rfl:=so h
     exact rq hC [.z (.at 2),.z (.fz 20 [7,26,39] []),oC [] [21] (aEH G hx15)] [4,7,26,39,40] [(4,ms 21 1 1 rI x15)] [(20,none),(21,some (ar 3 1 1 rI x15))] [(21,true)] (qw (lk hC [.ren 4 21 0] [4] [(4,ms 0 1 1 rI x15)] [(0,some (ar 3 1 1 rI x15)),(21,none)] [(0,true)]) (qr eW))
theorem aCG{a}{b}{r}(h:qH n a b=some r):PQ G 13 [vM (rL rI) a,vM (rL rI) b] (vB r):=by
 unfold qH at h
 refine pq aN Tryz.func13 rfl fun w X hC=> ?_
 refine rq hC [] [4] [] [] [] (qs (rq hC [oN (rL rI) a,oN (rL rI) b] (fr 6 5) [(10,vB (!decide ((a.length:Int)=(b.length:Int))))] [] [] (aT h (fun c1 h=> ?_) (fun c1 h=> ?_))))
 ·obtain rfl:=so h
  exact rq hC [] [4] [(4,vB false)] [] [] (qr eR)
 ·refine qk (qs (rq hC [] [5] [(5,vI 0)] [] [] (qb (jG h (fun x_=>aW [(0,vM (rL rI) a),(1,vM (rL rI) b),(5,vI x_)] [] []) lS ?_))))
  rintro again2 x1 h
  refine qs (rq hC [oN (rL rI) a] (fr 11 4) [(14,vB (decide (x1<(a.length:Int))))] [] [] (aT h (fun c2 h=> ?_) (fun c2 h=> ?_)))
  ·refine qk (qs (qb (qs ?_)))
   obtain⟨x3,hx3,x4,hx4,x5,hx5,h⟩:=jI h
   refine dk hC bD [oR (rL rI) hx3,oR (rL rI) hx4,oV (w5 G hx5)] (fr 17 10) [(26,vB (!x5))] [] [] (aT h (fun c3 h=> ?_) (fun c3 h=> ?_))
   ·obtain rfl:=so h
    exact rq hC [] [4] [(4,vB false)] [] [] (qr eR)
   ·exact qk (rk hC [] [5,15,16] [(5,vI (wr (x1+1)))] [] [] (lE h))
  ·obtain rfl:=so h
   exact cK (rq hC [] [4] [(4,vB true)] [] [] (qr eR))
theorem wI{p}{part}{r}(h:kL n p part=some r):PQ G 14 [V.agg (bJ p),vI part] (vM (rL rI) r):=by
 unfold kL at h
 refine pq aN Tryz.func14 rfl fun w X hC=> ?_
 refine rq hC [.z (.b (true))] [2,4] [(2,V.tp (cF p))] [] [] (qs ?_)
 obtain⟨x1,hx1,h⟩:=bd h
 refine aS h (fun c1 h=> ?_) (fun c1 h=> ?_)
 ·refine rk hC [.z (.v (V.tup [V.t T.nilP,vB x1.2])),oQ (vPn c1 (vN G hx1))] (fr 5 7) [(5,V.t T.nilP),(6,vB x1.2)] [] [] (qs (vj h (fun x_=>aW [(1,vI part),(5,V.t T.nilP),(19,vB x_)] [] []) (fun j2 h=> ?_) (fun x4 h=> ?_)))
  ·
   refine aS h (fun c2 h=> ?_) (fun c2 h=> ?_)
   ·obtain⟨x3,hx3,h⟩:=bd h
    exact rk hC (rF 3 c2++[oV (bI G hx3),oF c2,oF c2]) (fr 12 8) [(19,vB (!x3))] [] [] (lE h)
   ·exact rk hC (rT 5 c2) (fr 12 8) [(19,vB true)] [] [] (lE h)
  ·refine aT h (fun c3 h=> ?_) (fun c3 h=> ?_)
   ·obtain rfl:=so h
    exact rq hC [] [4] [(4,V.t T.nilS)] [] [] (qr eR)
   ·exact qk (qs (nof h))
 ·refine rk hC [.z (.v (V.tup [V.tp [T.sl (List.map aI (((x1.1.getD default).program).arrays)),T.sl (List.map aD (((x1.1.getD default).program).parts)),T.sl (List.map bH ((x1.1.getD default).list)),T.sl (List.map (rL rI) ((x1.1.getD default).reads)),T.sl (List.map rI ((x1.1.getD default).writes))],vB x1.2])),oQ (vPs c1 (vN G hx1))] (fr 5 7) [(5,V.tp [T.sl (List.map aI (((x1.1.getD default).program).arrays)),T.sl (List.map aD (((x1.1.getD default).program).parts)),T.sl (List.map bH ((x1.1.getD default).list)),T.sl (List.map (rL rI) ((x1.1.getD default).reads)),T.sl (List.map rI ((x1.1.getD default).writes))]),(6,vB x1.2)] [] [] (qs (vj h (fun x_=>aW [(1,vI part),(5,V.tp [T.sl (List.map aI (((x1.1.getD default).program).arrays)),T.sl (List.map aD (((x1.1.getD default).program).parts)),T.sl (List.map bH ((x1.1.getD default).list)),T.sl (List.map (rL rI) ((x1.1.getD default).reads)),T.sl (List.map rI ((x1.1.getD default).writes))]),(19,vB x_)] [] []) (fun j5 h=> ?_) (fun x7 h=> ?_)))
  ·
   refine aS h (fun c4 h=> ?_) (fun c4 h=> ?_)
   ·obtain⟨x6,hx6,h⟩:=bd h
    exact rk hC (rF 3 c4++[oV (bI G hx6),oF c4,oF c4]) (fr 12 8) [(19,vB (!x6))] [] [] (lE h)
   ·exact rk hC (rT 5 c4) (fr 12 8) [(19,vB true)] [] [] (lE h)
  ·refine aT h (fun c5 h=> ?_) (fun c5 h=> ?_)
   ·obtain rfl:=so h
    exact rq hC [] [4] [(4,V.t T.nilS)] [] [] (qr eR)
   ·refine qk ?_
    obtain⟨x8,hx8,h⟩:=bd h
    obtain rfl:=so h
    exact rq hC [oV (m5 G hx8)] [4,20,21,22] [(4,vM (rL rI) x8)] [] [] (qr eR)
theorem vR(G:GS)(n:Nat)(code:List UInt8){r:Bool}(h:gZ n code=some r):PQ G 3 [vM rY code] (vB r):=by
 unfold gZ at h
 refine pq aN Tryz.func3 rfl fun w X hC=> ?_
 refine rq hC [] [2] [] [] [] (qs (rq hC [oN rY code] [11,12,13] [(13,vB (decide ((1048576:Int)<(code.length:Int))))] [] [] (aT h (fun c1 h=> ?_) (fun c1 h=> ?_))))
 ·obtain rfl:=so h
  exact rq hC [] [2] [(2,vB true)] [] [] (qr eR)
 ·refine qk ?_
  obtain⟨x1,hx1,h⟩:=bd h
  refine rq hC [oV (zB G hx1),.z (.nat 20)] [3,4,5,6,14,15,16,17,18,19,20] [(3,V.ref 20 0),(4,vI x1.2.1),(5,vI x1.2.2.1),(6,vI x1.2.2.2)] [(20,some (E.cells (bJ x1.1)))] [(20,true)] ?_
  obtain⟨x2,hx2,h⟩:=bd h
  refine rq hC [oV (X0 G hx2),.z (.nat 21)] [7,8,21,22,23,24,25,26,27,28] [(7,V.ref 21 0),(8,vB x2.2)] [(21,some (E.cells (bJ x2.1)))] [(21,true)] ?_
  obtain⟨x3,hx3,h⟩:=bd h
  refine rq hC [oV (W4 G hx3),.z (.nat 22)] [9,10,29,30,31,32,33,34,35,36] [(9,V.ref 22 0),(10,vB x3.2)] [(22,some (E.cells (bJ x3.1)))] [(22,true)] (qs (vj h (fun x_=>aW [(3,V.ref 20 0),(4,vI x1.2.1),(7,V.ref 21 0),(8,vB x2.2),(9,V.ref 22 0),(10,vB x3.2),(49,vB x_)] [(20,E.cells (bJ x1.1)),(21,E.cells (bJ x2.1)),(22,E.cells (bJ x3.1))] [20,21,22]) (fun j4 h=> ?_) (fun x6 h=> ?_)))
  ·
   refine aS h (fun c2 h=> ?_) (fun c2 h=> ?_)
   ·obtain⟨x5,hx5,h⟩:=bd h
    refine aS h (fun c3 h=> ?_) (fun c3 h=> ?_)
    ·exact rk hC (rF 3 c2++[oV (nC G hx5),oF c2,oF c2]++rF 3 c3) (fr 37 13) [(49,vB (!x2.2))] [] [] (lE h)
    ·exact rk hC (rF 3 c2++[oV (nC G hx5),oF c2,oF c2]++rT 3 c3) (fr 37 13) [(49,vB true)] [] [] (lE h)
   ·exact rk hC (rT 5 c2++[eT,eT,eT]) (fr 37 13) [(49,vB true)] [] [] (lE h)
  ·refine aT h (fun c4 h=> ?_) (fun c4 h=> ?_)
   ·refine vj h (fun x_=>aW [(2,vB x_)] [(20,E.cells (bJ x1.1)),(21,E.cells (bJ x2.1)),(22,E.cells (bJ x3.1))] [20,21,22]) (fun j7 h=> ?_) (fun x9 h=> ?_)
    ·
     refine aS h (fun c5 h=> ?_) (fun c5 h=> ?_)
     ·exact rk hC (rF 4 c5) [2,50,51,52,53,54,55,56,57] [(2,vB false)] [] [] (lE h)
     ·obtain⟨x8,hx8,h⟩:=bd h
      exact rk hC (rT 3 c5++[oV (nC G hx8),oT c5]) [2,50,51,52,53,54,55,56,57] [(2,vB x8)] [] [] (lE h)
    ·obtain rfl:=so h
     exact qr eR
   ·refine qk (vj h (fun x_=>aW [(2,vB x_.2.2)] [(20,E.cells (bJ x1.1)),(21,E.cells (bJ x2.1)),(22,E.cells (bJ x3.1)),(23,ar 3 1 1 rI x_.1),(24,ar 3 1 1 rI x_.2.1)] [20,21,22,23,24]) (fun j10 h=> ?_) ?_)
    ·
     obtain⟨x11,hx11,x12,hx12,x13,hx13,h⟩:=jI h
     refine aS h (fun c6 h=> ?_) (fun c6 h=> ?_)
     ·exact dk hC bD ([oC [] [23] (iA G hx11),oC [] [24] (iA G hx12),.z (.b (true)),oV (w5 G hx13)]++rF 8 c6) [2,58,59,60,61,62,63,64,65,66,67,68,69,70,71,72,73] [(2,vB false)] [(23,some (ar 3 1 1 rI x11)),(24,some (ar 3 1 1 rI x12))] [(23,true),(24,true)] (lE h)
     ·obtain⟨x14,hx14,x15,hx15,x16,hx16,h⟩:=jI h
      exact dk hC bD ([oC [] [23] (iA G hx11),oC [] [24] (iA G hx12),.z (.b (true)),oV (w5 G hx13)]++rT 3 c6++[oV (wI G hx14)]++rT 3 c6++[oV (wI G hx15),oT c6,oV (aCG G hx16),oT c6]) [2,58,59,60,61,62,63,64,65,66,67,68,69,70,71,72,73] [(2,vB x16)] [(23,some (ar 3 1 1 rI x11)),(24,some (ar 3 1 1 rI x12))] [(23,true),(24,true)] (lE h)
    ·rintro⟨x17,x18,x19⟩ h
     obtain rfl:=so h
     exact qr eR
end Go.Lift
