/- The walks: the code computes what the plain functions say. -/
import Derived.Test.YtohillieiccgdaaGreatDoorXModels
import Derived.Test.YtohillieiccgdaaGreatDoorXWalks1
set_option maxRecDepth 10000
set_option linter.unusedVariables false
namespace Go.Lift
open Go Go.Proofs
variable (G:GS) {n:Nat}
theorem V4{r_a0}{r}(h:oK n r_a0=some r):VQ G 52 [eL r_a0] [V.ref 0 0] (V.agg (dT r.1)) [eL r.2]:=by
 unfold oK at h
 refine vq aQ Tryz.func52 rfl fun w X β0 hC hg=> ?_
 refine rq hC [.z (.nat 20)] [2] [(2,V.ref 20 0)] [(20,sc [V.t T.nilS,V.t T.nilS])] [(20,true)] ?_
 obtain⟨x1,hx1,h⟩:=bd h
 refine rq hC [oV (nL G n hx1),.z (.nat 21)] [3,5,6] [(3,V.ref 21 0)] [(21,sc [vM aL x1,V.t T.nilS])] [(21,true)] (qs ?_)
 obtain⟨x2,hx2,h⟩:=bd h
 refine rq hC [.z (.int 0),oC [0] [] (aZ G hx2)] [4,7,8,9] [(4,vI x2.1)] [(0,sR x2.2)] [(0,true)] (qb (qw (lk hC [.growc 21 1 22 43] [] [] [(22,some (ar 43 1 2 aE [])),(21,sc [vM aL x1,ms 22 1 2 aE []])] [(22,true)]) (bJ (γ:=Nat) h (fun x_ g_=>bA [(0,V.ref 0 0),(2,V.ref 20 0),(3,V.ref 21 0),(4,vI x_.2.2.2)] [(0,E.cells [vM rY x_.1,vI x_.2.1]),(20,E.cells [V.t T.nilS,V.t T.nilS]),(21,E.cells [vM aL x1,ms 22 g_ 2 aE x_.2.2.1]),(22,ar 43 g_ 2 aE x_.2.2.1)] [0,20,21,22]) 1 (lS) ?_)))
 rintro again8 ⟨x3,x4,x5,x6⟩ g7 h
 refine qs (rq hC [] [10,11] [(11,vB (decide ((0:Int)<x6)))] [] [] (aS h (fun c1 h=> ?_) (fun c1 h=> ?_)))
 ·refine qk (qs (qb ?_))
  obtain⟨x9,hx9,x10,hx10,h⟩:=d7 h
  exact dk hC bO [oC [0] [] (V6 G hx9),.z (.int 0),oA (aO aE hx10),oQ (b8 (r:=aE) 2 iF x5),oQ (b8 (r:=aE) 2 iF [x9.1])] (fr 14 7) [] [(0,sR x9.2),(22,some (ar 43 (g7+1) 2 aE x10)),(21,sc [vM aL x1,ms 22 (g7+1) 2 aE x10])] [(0,true)] (rk hC [] [4,12,13] [(4,vI (wr (x6-1)))] [] [] ⟨(x9.2.b,x9.2.p,x10,wr (x6-1)),(g7+1),h,lS⟩)
 ·refine dE (qs ?_)
  obtain⟨x11,hx11,h⟩:=bd h
  refine rq hC [.z (.at 2),.z (.fz 22 [] [21]),oV (iP G hx11)] [21,22] [(22,vB x11)] [(21,sc [vM aL x1,vM aE x5]),(22,none)] [] (aS h (fun c2 h=> ?_) (fun c2 h=> ?_))
  ·obtain rfl:=so h
   exact rq hC [] [23] [] [(20,sc [vM aL x1,vM aE x5])] [] (qr eW)
  ·refine qk (qs ?_)
   obtain⟨x12,hx12,x13,hx13,h⟩:=d7 h
   obtain rfl:=so h
   exact dk hC bO [oV (nL G n hx12),oA (rA aE hx13),oQ (b8 (r:=aE) 2 iF x5)] (fr 24 5) [] [(20,sc [vM aL x12,vM aE x13])] [] (qr eW)
theorem sG{s}{r}(h:mZ n s=some r):VQ G 74 [] [vS s] (ms 0 1 1 rS r) [ar 9 1 1 rS r]:=by
 unfold mZ at h
 refine vq aQ Tryz.func74 rfl fun w X β0 hC hg=> ?_
 refine rq hC [] [2] [] [] [] ?_
 obtain⟨x1,hx1,h⟩:=bd h
 refine rq hC [oC [] [20] (qW G hx1)] [3,6,7] [(3,ms 20 1 1 rS x1)] [(20,some (ar 9 1 1 rS x1))] [(20,true)] (rq hC [.z (.nat 21)] [4,8] [(4,ms 21 1 1 rS [])] [(21,some (ar 9 1 1 rS []))] [(21,true)] (qs (rq hC [] [5] [(5,vI 0)] [] [] (qb (bJ (γ:=Nat) h (fun x_ g_=>bA [(3,ms 20 1 1 rS x1),(4,ms 21 g_ 1 rS x_.1),(5,vI x_.2)] [(20,ar 9 1 1 rS x1),(21,ar 9 g_ 1 rS x_.1)] [20,21]) 1 (lS) ?_)))))
 rintro again5 ⟨x2,x3⟩ g4 h
 refine qs (rq hC [oN rS x1] (fr 9 4) [(12,vB (decide (x3<(x1.length:Int))))] [] [] (aS h (fun c1 h=> ?_) (fun c1 h=> ?_)))
 ·refine qk ?_
  obtain⟨j6,hj6,h⟩:=yT h
  refine kK (γ:=Nat) (j:=j6) (r:=r) (fun x_ g_=>bA [(3,ms 20 1 1 rS x1),(4,ms 21 g_ 1 rS x_),(5,vI x3)] [(20,ar 9 1 1 rS x1),(21,ar 9 g_ 1 rS x_)] [20,21]) ?_ ?_
  ·
   refine qb ?_
   obtain⟨x7,hx7,h⟩:=bd h
   refine rq hC [oQ (pQ rS hx7),oX rS hx7] (fr 15 5) [(19,vB (!decide (x7=[])))] [] [] (aS h (fun c2 h=> ?_) (fun c2 h=> ?_))
   ·obtain⟨x8,hx8,h⟩:=bd h
    exact rk hC [oQ (pQ rS hx7),oX rS hx7,.z (.int 0),oA (aO rS hx8),oQ (b8 (r:=rS) 1 (fun _=>rfl) x2),oQ (b8 (r:=rS) 1 (fun _=>rfl) [x7])] [4,20,21,22,23,24,25,26] [(4,ms 21 (g4+1) 1 rS x8)] [(21,some (ar 9 (g4+1) 1 rS x8))] [] ⟨x8,(g4+1),h,lS⟩
   ·exact qk ⟨x2,g4,h,lS⟩
  ·rintro x9 g10 h
   subst hj6
   exact rk hC [] [5,13,14] [(5,vI (wr (x3+1)))] [] [] ⟨(x9,wr (x3+1)),g10,h,lS⟩
 ·obtain rfl:=so h
  exact dE (rq hC [] [2,27] [(2,ms 21 g4 1 rS x2)] [] [] (qw (lk hC [.ren 2 21 0] [2] [(2,ms 0 1 1 rS x2)] [(0,some (ar 9 1 1 rS x2)),(21,none)] [(0,true)]) (qr eW)))
theorem N5{w_a0}{r}(h:sY n w_a0=some r):PQ G 75 [vM rS w_a0] (V.agg [vS r.name,vM rI r.dims]):=by
 unfold sY at h
 refine pq aQ Tryz.func75 rfl fun w X hC=> ?_
 refine rq hC [.z (.nat 20)] [2] [(2,V.ref 20 0)] [(20,sc [vS [],V.t T.nilS])] [(20,true)] (rq hC [.z (.nat 21)] [3,7] [(3,V.ref 21 0)] [(21,sc [vS [],V.t T.nilS])] [(21,true)] (qs (rq hC [] [4] [(4,vI 1)] [] [] (qb (qw (lk hC [.growc 21 1 22 3] [] [] [(22,some (ar 3 1 1 rI [])),(21,sc [vS [],ms 22 1 1 rI []])] [(22,true)]) ?_)))))
 refine bJ (γ:=Nat) h (fun x_ g_=>bA [(0,vM rS w_a0),(2,V.ref 20 0),(3,V.ref 21 0),(4,vI x_.2.2)] [(20,E.cells [vS [],V.t T.nilS]),(21,E.cells [vS x_.1,ms 22 g_ 1 rI x_.2.1]),(22,ar 3 g_ 1 rI x_.2.1)] [20,21,22]) 1 (lS) ?_
 rintro again5 ⟨x1,x2,x3⟩ g4 h
 refine qs (vj h (fun x_=>bA [(0,vM rS w_a0),(2,V.ref 20 0),(3,V.ref 21 0),(4,vI x3),(15,vB x_)] [(20,E.cells [vS [],V.t T.nilS]),(21,E.cells [vS x1,ms 22 g4 1 rI x2]),(22,ar 3 g4 1 rI x2)] [20,21,22]) (fun j6 h=> ?_) (fun x7 h=> ?_))
 ·
  refine aT h (fun c1 h=> ?_) (fun c1 h=> ?_)
  ·exact rk hC ([oN rS w_a0]++rF 3 c1) (fr 8 8) [(15,vB false)] [] [] (lE h)
  ·exact rk hC ([oN rS w_a0]++rT 3 c1) (fr 8 8) [(15,vB (decide (x3≤4)))] [] [] (lE h)
 ·refine aS h (fun c2 h=> ?_) (fun c2 h=> ?_)
  ·refine qk ?_
   obtain⟨j8,hj8,h⟩:=yT h
   refine kK (γ:=Nat) (j:=j8) (r:=r) (fun x_ g_=>bA [(0,vM rS w_a0),(2,V.ref 20 0),(3,V.ref 21 0),(4,vI x3)] [(20,E.cells [vS [],V.t T.nilS]),(21,E.cells [vS x_.1,ms 22 g_ 1 rI x_.2]),(22,ar 3 g_ 1 rI x_.2)] [20,21,22]) ?_ ?_
   ·
    refine qb (qs (rq hC [] [18,19] [(19,vB (decide (x3=1)))] [] [] (aS h (fun c3 h=> ?_) (fun c3 h=> ?_))))
    ·obtain⟨x9,hx9,h⟩:=bd h
     exact rq hC [oR rS hx9] (fr 20 4) [] [(21,sc [vS x9,ms 22 g4 1 rI x2])] [] (dE ⟨(x9,x2),g4,h,lS⟩)
    ·refine qk ?_
     obtain⟨x10,hx10,x11,hx11,h⟩:=d7 h
     refine rq hC [oR rS hx10,oV (yE G hx11)] [5,6,24,25,26,27,28,29,30,31] [(5,vI x11.1)] [] [] ?_
     obtain⟨x12,hx12,h⟩:=bd h
     exact rk hC [.z (.int 0),oA (aO rI hx12),oQ (b8 (r:=rI) 1 (fun _=>rfl) x2),oQ (b8 (r:=rI) 1 (fun _=>rfl) [x11.1])] (fr 32 6) [] [(22,some (ar 3 (g4+1) 1 rI x12)),(21,sc [vS x1,ms 22 (g4+1) 1 rI x12])] [] ⟨(x1,x12),(g4+1),h,lS⟩
   ·rintro⟨x13,x14⟩ g15 h
    subst hj8
    exact rk hC [] [4,16,17] [(4,vI (wr (x3+1)))] [] [] ⟨(x13,x14,wr (x3+1)),g15,h,lS⟩
  ·obtain rfl:=so h
   exact dE (rq hC [.z (.at 2),.z (.fz 22 [] [21])] [38] [] [(21,sc [vS x1,vM rI x2]),(22,none),(20,sc [vS x1,vM rI x2])] [] (qr eR))
theorem W2{line}{r}(h:v6 n line=some r):PQ G 76 [vS line] (V.agg (B4 r)):=by
 unfold v6 at h
 refine pq aQ Tryz.func76 rfl fun w X hC=> ?_
 refine rq hC [.z (.nat 20)] [2] [(2,V.ref 20 0)] [(20,sc [V.t T.nilS,V.t T.nilS])] [(20,true)] ?_
 obtain⟨x1,hx1,h⟩:=bd h
 refine rq hC [oC [] [21] (sG G hx1)] [3,4,5] [(3,ms 21 1 1 rS x1)] [(21,some (ar 9 1 1 rS x1))] [(21,true)] (qs (rq hC [oN rS x1] [6,7,8] [(8,vB (!decide ((x1.length:Int)=3)))] [] [] (aS h (fun c1 h=> ?_) (fun c1 h=> ?_))))
 ·obtain rfl:=so h
  exact rq hC [] [9] [] [(20,sc [V.t T.nilS,V.t T.nilS])] [] (qr eR)
 ·refine qk (qs ?_)
  obtain⟨x2,hx2,x3,hx3,x4,hx4,h⟩:=kI h
  obtain⟨x5,hx5,h⟩:=bd h
  obtain rfl:=so h
  exact dk hC bO [oQ (pQ rS hx2),oX rS hx2,oC [] [22] (jL G hx3),oQ (pQ rS hx4),oX rS hx4,oC [] [23] (jL G hx5)] (fr 10 9) [] [(22,some (ar 64 1 2 aB x3)),(23,some (ar 64 1 2 aB x5)),(20,sc [ms 22 1 2 aB x3,ms 23 1 2 aB x5])] [(22,true),(23,true)] (qw (lk hC [.fz 22 [] [20]] [] [] [(20,sc [vM aB x3,ms 23 1 2 aB x5]),(22,none)] []) (qw (lk hC [.fz 23 [] [20]] [] [] [(20,sc [vM aB x3,vM aB x5]),(23,none)] []) (qr eR)))
def o6:List Nd:=[⟨43,2,[(0,1),(1,2)]⟩,⟨96,2,[]⟩,⟨69,9,[]⟩]
theorem V3(G:GS)(n:Nat)(p:Prog)(line:List UInt8)(g0 g1:Nat){r:Prog}(h:vX n p line=some r):VQ G 50 [ar 58 g0 2 aL p.arrays,E.tree o6 0 g1 (List.map aE p.parts) []] [V.agg [ms 0 g0 2 aL p.arrays,ms 1 g1 2 aE p.parts],vS line] (V.agg [ms 0 (g0+1) 2 aL r.arrays,ms 1 (g1+1) 2 aE r.parts]) [ar 58 (g0+1) 2 aL r.arrays,E.tree o6 0 (g1+1) (List.map aE r.parts) []]:=by
 unfold vX at h
 refine vq aQ Tryz.func50 rfl fun w X β0 hC hg=> ?_
 refine rq hC [.z (.nat 20),.z (.nat 21)] [0,2,4] [(2,V.ref 20 0),(4,V.ref 21 0)] [(20,sc [ms 0 g0 2 aL p.arrays,ms 1 g1 2 aE p.parts]),(21,sc [V.t T.nilS,V.t T.nilS])] [(20,true),(21,true)] ?_
 obtain⟨x1,hx1,h⟩:=bd h
 refine rq hC [oC [] [22] (sG G hx1)] [5,11,12] [(5,ms 22 1 1 rS x1)] [(22,some (ar 9 1 1 rS x1))] [(22,true)] (rq hC [oN aE p.parts] [6,13,14,15,16] [(6,vI (wr ((p.parts.length:Int)-1)))] [] [] (qw (lk hC [.fz 22 [5] []] [5] [(5,vM rS x1)] [(22,none)] []) (qs (qb (vj h (fun x_=>bA [(1,vS line),(2,V.ref 20 0),(4,V.ref 21 0),(5,vM rS x1),(6,vI (wr ((p.parts.length:Int)-1))),(17,vB x_)] [(0,ar 58 g0 2 aL p.arrays),(1,E.tree o6 0 g1 (List.map aE p.parts) []),(20,E.cells [ms 0 g0 2 aL p.arrays,ms 1 g1 2 aE p.parts]),(21,E.cells [V.t T.nilS,V.t T.nilS])] [0,1,20,21,22]) (fun j2 h=> ?_) (fun x4 h=> ?_))))))
 ·
  refine aT h (fun c1 h=> ?_) (fun c1 h=> ?_)
  ·exact rk hC ([oN rS x1]++rF 5 c1) (fr 17 10) [(17,vB false)] [] [] (lE h)
  ·obtain⟨x3,hx3,h⟩:=bd h
   exact rk hC ([oN rS x1,oT c1,oT c1,oR rS hx3]++rT 3 c1) (fr 17 10) [(17,vB (decide (x3=[97,114,114,97,121])))] [] [] (lE h)
 ·refine aS h (fun c2 h=> ?_) (fun c2 h=> ?_)
  ·obtain⟨x5,hx5,x6,hx6,h⟩:=d7 h
   obtain rfl:=so h
   exact dk hC bO [oV (N5 G hx5),.z (.int 0),oA (aO aL hx6),oQ (b8 (r:=aL) 2 mD p.arrays),oQ (b8 (r:=aL) 2 mD [x5])] (fr 27 7) [] [(0,some (ar 58 (g0+1) 2 aL x6)),(20,sc [ms 0 (g0+1) 2 aL x6,ms 1 g1 2 aE p.parts])] [] (rq hC [] [98] [] [(21,sc [ms 0 (g0+1) 2 aL x6,ms 1 g1 2 aE p.parts])] [] (qw (cO 21 1 1 g1 g1 2 0 (List.map aE p.parts).length (e:=E.tree o6 0 g1 (List.map aE p.parts) []) (cs:=[ms 0 (g0+1) 2 aL x6,ms 1 g1 2 aE p.parts]) rfl (by kernel_rfl) (by kernel_rfl) (by kernel_rfl) (by kernel_rfl) rfl rfl hg.2.1) (qr eW)))
  ·refine rq hC [] [34,35,36] [(34,vB (decide (line=[112,97,114,116])))] [] [] (aS h (fun c3 h=> ?_) (fun c3 h=> ?_))
   ·obtain⟨x7,hx7,h⟩:=bd h
    obtain rfl:=so h
    exact rk hC [.z (.at 4),.z (.growa 39 0 24 96),.z (.growa 39 1 25 69),.z (.lt 26 o6 0),.z (.rows (List.map aE (p.parts++[(⟨[],[]⟩:Part)]))),.z (.at 2),.z (.tre 24 o6 1),.z (.unf 1 24 (aE (⟨[],[]⟩:Part)) (List.map aE (p.parts++[(⟨[],[]⟩:Part)]))),.z (.tre 25 o6 2),.z (.unf 1 25 (aE (⟨[],[]⟩:Part)) (List.map aE x7)),.z (.len 41 (List.map aE x7).length),oQ (Eq.refl (ndOf o6 0)),oQ (aFf aE (⟨[],[]⟩:Part) hx7),oQ (b8 (r:=aE) 2 iF p.parts),oQ (b8 (r:=aE) 2 iF [(⟨[],[]⟩:Part)]),oQ (Eq.refl (List.map aC []).length),oQ (Eq.refl o6),oQ (aBw aE p.parts (⟨[],[]⟩:Part)),oQ (aES aE p.parts (ph:=(⟨[],[]⟩:Part)) (y:=(⟨[],[]⟩:Part)) rfl),oQ (Eq.refl (List.map aR []).length),oQ (Eq.refl o6),oQ (aBw aE p.parts (⟨[],[]⟩:Part)),oQ (aBq aE hx7 (ph:=(⟨[],[]⟩:Part)) rfl),oQ (aEW aE (⟨[],[]⟩:Part) hx7)] (fr 37 6) [] [(24,none),(25,none),(26,some (E.tree o6 0 1 (List.map aE [(⟨[],[]⟩:Part)]) [(0,0,ms 24 1 2 aC []),(0,1,ms 25 1 9 aR [])])),(1,some (E.tree o6 0 (g1+1) (List.map aE x7) [])),(20,sc [ms 0 g0 2 aL p.arrays,ms 1 (g1+1) 2 aE x7])] [(24,true),(25,true),(26,true)] (rq hC [] [98] [] [(21,sc [ms 0 g0 2 aL p.arrays,ms 1 (g1+1) 2 aE x7])] [] (qw (cO 21 0 0 g0 g0 2 0 (List.map aL p.arrays).length (e:= .arr 58 g0 2 (List.map aL p.arrays)) (cs:=[ms 0 g0 2 aL p.arrays,ms 1 (g1+1) 2 aE x7]) rfl (by kernel_rfl) (by kernel_rfl) (by kernel_rfl) (by kernel_rfl) rfl rfl hg.1) (qr eW)))
   ·refine vj h (fun x_=>bA [(1,vS line),(2,V.ref 20 0),(4,V.ref 21 0),(6,vI (wr ((p.parts.length:Int)-1))),(43,vB x_)] [(0,ar 58 g0 2 aL p.arrays),(1,E.tree o6 0 g1 (List.map aE p.parts) []),(20,E.cells [ms 0 g0 2 aL p.arrays,ms 1 g1 2 aE p.parts]),(21,E.cells [V.t T.nilS,V.t T.nilS])] [0,1,20,21,22]) (fun j6 h=> ?_) (fun x8 h=> ?_)
    ·
     refine aT h (fun c4 h=> ?_) (fun c4 h=> ?_)
     ·exact rk hC (rF 4 c4++sF 5) (fr 43 14) [(43,vB false)] [] [] (lE h)
     ·refine aT h (fun c5 h=> ?_) (fun c5 h=> ?_)
      ·exact rk hC ([oT c4,oT c4,oN rS x1,oT c4,oT c4]++rF 5 c5) (fr 43 14) [(43,vB false)] [] [] (lE h)
      ·obtain⟨x7,hx7,h⟩:=bd h
       exact rk hC ([oT c4,oT c4,oN rS x1,oT c4,oT c4,oT c5,oT c5,oR rS hx7]++rT 3 c5) (fr 43 14) [(43,vB (decide (x7=[102,111,114])))] [] [] (lE h)
    ·refine aS h (fun c6 h=> ?_) (fun c6 h=> ?_)
     ·obtain⟨x9,hx9,h⟩:=bd h
      refine rq hC [.z (.foc 1 24 (0+Int.toNat (wr ((p.parts.length:Int)-1))) 0 (aE x9)),.z (.foc 1 25 (0+Int.toNat (wr ((p.parts.length:Int)-1))) 1 (aE x9)),oX aE hx9,.z (.nat 23),oQ (I1 aE hx9),oQ (pQ aE hx9),oQ (I1 aE hx9)] [7,57,58,59,60,61] [(7,V.ref 23 0)] [(1,some (E.tree o6 0 g1 (List.map aE p.parts) [((0+Int.toNat (wr ((p.parts.length:Int)-1))),1,ms 25 1 9 aR x9.body),((0+Int.toNat (wr ((p.parts.length:Int)-1))),0,ms 24 1 2 aC x9.nest)])),(24,some (E.tree o6 1 1 (List.map aC x9.nest) [])),(25,some (E.tree o6 2 1 (List.map aR x9.body) [])),(23,sc [ms 24 1 2 aC x9.nest,ms 25 1 9 aR x9.body])] [(24,true),(25,true),(23,true)] (qw (lk hC [.shd 24] [] [] [(24,some (ar 96 1 2 aC x9.nest))] []) (qs ?_))
      obtain⟨x10,hx10,x13,hx13,x14,hx14,h⟩:=kI h
      obtain rfl:=so h
      exact dk hC bO [oV (W2 G hx10),.z (.int 0),oA (aO aC hx13),oQ (b8 (r:=aC) 2 eQ x9.nest),oQ (b8 (r:=aC) 2 eQ [x10])] (fr 62 7) [] [(24,some (ar 96 2 2 aC x13)),(23,sc [ms 24 2 2 aC x13,ms 25 1 9 aR x9.body])] [] (rk hC [oQ (pQ aE hx9),oX aE hx9,.z (.unf 1 25 (aE x9) (List.map aE p.parts)),.z (.tre 24 o6 1),.z (.unf 1 24 (aE x9) (List.map aE x14)),.z (.lenc 20 1 (List.map aE x14).length),oQ (Eq.refl (List.map aR x9.body).length),oQ (Eq.refl o6),oQ (I1 aE hx9),oQ (aBs aE hx9 rfl),oQ (Eq.refl (List.map aC x13).length),oQ (Eq.refl o6),oQ (I1 aE hx9),oQ (aBr aE hx14 rfl),oQ (rO aE hx14)] (fr 69 5) [] [(24,none),(25,none),(1,some (E.tree o6 0 g1 (List.map aE x14) [])),(20,sc [ms 0 g0 2 aL p.arrays,ms 1 g1 2 aE x14])] [] (rq hC [] [98] [] [(21,sc [ms 0 g0 2 aL p.arrays,ms 1 g1 2 aE x14])] [] (qw (cO 21 0 0 g0 g0 2 0 (List.map aL p.arrays).length (e:= .arr 58 g0 2 (List.map aL p.arrays)) (cs:=[ms 0 g0 2 aL p.arrays,ms 1 g1 2 aE x14]) rfl (by kernel_rfl) (by kernel_rfl) (by kernel_rfl) (by kernel_rfl) rfl rfl hg.1) (qw (cO 21 1 1 g1 g1 2 0 (List.map aE x14).length (e:=E.tree o6 0 g1 (List.map aE x14) []) (cs:=[ms 0 (g0+1) 2 aL p.arrays,ms 1 g1 2 aE x14]) rfl (by kernel_rfl) (by kernel_rfl) (by kernel_rfl) (by kernel_rfl) rfl rfl hg.2.1) (qr eW)))))
     ·refine rq hC [] [74,75,76] [(74,vB (decide ((0:Int)≤wr ((p.parts.length:Int)-1))))] [] [] (aS h (fun c7 h=> ?_) (fun c7 h=> ?_))
      ·obtain⟨x11,hx11,h⟩:=bd h
       refine rq hC [.z (.foc 1 25 (0+Int.toNat (wr ((p.parts.length:Int)-1))) 1 (aE x11)),.z (.foc 1 26 (0+Int.toNat (wr ((p.parts.length:Int)-1))) 0 (aE x11)),oX aE hx11,.z (.nat 23),oQ (I1 aE hx11),oQ (pQ aE hx11),oQ (I1 aE hx11)] [8,77,78,79,80,81] [(8,V.ref 23 0)] [(1,some (E.tree o6 0 g1 (List.map aE p.parts) [((0+Int.toNat (wr ((p.parts.length:Int)-1))),0,ms 26 1 2 aC x11.nest),((0+Int.toNat (wr ((p.parts.length:Int)-1))),1,ms 25 1 9 aR x11.body)])),(25,some (E.tree o6 2 1 (List.map aR x11.body) [])),(26,some (E.tree o6 1 1 (List.map aC x11.nest) [])),(23,sc [ms 26 1 2 aC x11.nest,ms 25 1 9 aR x11.body])] [(25,true),(26,true),(23,true)] (qw (lk hC [.shd 25] [] [] [(25,some (ar 69 1 9 aR x11.body))] []) ?_)
       obtain⟨x12,hx12,h⟩:=bd h
       refine rq hC [oV (qF G hx12),.z (.nat 24)] [9,10,82,83,84,85,86] [(9,V.ref 24 0)] [(24,some (E.cells (hS x12.1)))] [(24,true)] ?_
       obtain⟨x15,hx15,x16,hx16,h⟩:=d7 h
       obtain rfl:=so h
       exact rq hC [.z (.int 0),oA (aO aR hx15),oQ (b8 (r:=aR) 9 kC x11.body),oQ (b8 (r:=aR) 9 kC [x12.1])] (fr 87 6) [] [(25,some (ar 69 2 9 aR x15)),(23,sc [ms 26 1 2 aC x11.nest,ms 25 2 9 aR x15])] [] (rk hC [oQ (pQ aE hx11),oX aE hx11,.z (.unf 1 26 (aE x11) (List.map aE p.parts)),.z (.tre 25 o6 2),.z (.unf 1 25 (aE x11) (List.map aE x16)),.z (.lenc 20 1 (List.map aE x16).length),oQ (Eq.refl (List.map aC x11.nest).length),oQ (Eq.refl o6),oQ (I1 aE hx11),oQ (aBs aE hx11 rfl),oQ (Eq.refl (List.map aR x15).length),oQ (Eq.refl o6),oQ (I1 aE hx11),oQ (aBr aE hx16 rfl),oQ (rO aE hx16)] (fr 93 5) [] [(25,none),(26,none),(1,some (E.tree o6 0 g1 (List.map aE x16) [])),(20,sc [ms 0 g0 2 aL p.arrays,ms 1 g1 2 aE x16])] [] (rq hC [] [98] [] [(21,sc [ms 0 g0 2 aL p.arrays,ms 1 g1 2 aE x16])] [] (qw (cO 21 0 0 g0 g0 2 0 (List.map aL p.arrays).length (e:= .arr 58 g0 2 (List.map aL p.arrays)) (cs:=[ms 0 g0 2 aL p.arrays,ms 1 g1 2 aE x16]) rfl (by kernel_rfl) (by kernel_rfl) (by kernel_rfl) (by kernel_rfl) rfl rfl hg.1) (qw (cO 21 1 1 g1 g1 2 0 (List.map aE x16).length (e:=E.tree o6 0 g1 (List.map aE x16) []) (cs:=[ms 0 (g0+1) 2 aL p.arrays,ms 1 g1 2 aE x16]) rfl (by kernel_rfl) (by kernel_rfl) (by kernel_rfl) (by kernel_rfl) rfl rfl hg.2.1) (qr eW)))))
      ·obtain rfl:=so h
       exact qk (rq hC [] [98] [] [(21,sc [ms 0 g0 2 aL p.arrays,ms 1 g1 2 aE p.parts])] [] (qw (cO 21 0 0 g0 g0 2 0 (List.map aL p.arrays).length (e:= .arr 58 g0 2 (List.map aL p.arrays)) (cs:=[ms 0 g0 2 aL p.arrays,ms 1 g1 2 aE p.parts]) rfl (by kernel_rfl) (by kernel_rfl) (by kernel_rfl) (by kernel_rfl) rfl rfl hg.1) (qw (cO 21 1 1 g1 g1 2 0 (List.map aE p.parts).length (e:=E.tree o6 0 g1 (List.map aE p.parts) []) (cs:=[ms 0 (g0+1) 2 aL p.arrays,ms 1 g1 2 aE p.parts]) rfl (by kernel_rfl) (by kernel_rfl) (by kernel_rfl) (by kernel_rfl) rfl rfl hg.2.1) (qr eW))))
theorem V9{nest}{r}(h:vZ n nest=some r):PQ G 79 [vM aC nest] (vS r):=by
 unfold vZ at h
 refine pq aQ Tryz.func79 rfl fun w X hC=> ?_
 refine rq hC [] [2] [] [] [] (rq hC [] [3] [(3,vS [])] [] [] (qs (rq hC [] [4] [(4,vI 0)] [] [] (qb (jH h (fun x_=>bA [(0,vM aC nest),(3,vS x_.1),(4,vI x_.2)] [] []) lS ?_)))))
 rintro again3 ⟨x1,x2⟩ h
 refine qs (rq hC [oN aC nest] (fr 5 4) [(8,vB (decide (x2<(nest.length:Int))))] [] [] (aS h (fun c1 h=> ?_) (fun c1 h=> ?_)))
 ·refine qk (qs (qb ?_))
  obtain⟨x4,hx4,x5,hx5,x6,hx6,h⟩:=kI h
  obtain⟨x7,hx7,x8,hx8,x9,hx9,h⟩:=kI h
  obtain⟨x10,hx10,x11,hx11,h⟩:=d7 h
  exact dk hC bO [oS hx4,oR aC hx5,oV (lC G hx6),oS hx7,oS hx8,oR aC hx5,oV (lC G hx9),oS hx10,oS hx11] [3,11,12,13,14,15,16,17,18,19,20,21,22,23,24,25,26,27,28] [(3,vS x11)] [] [] (rk hC [] [4,9,10] [(4,vI (wr (x2+1)))] [] [] (lE h))
 ·obtain rfl:=so h
  exact dE (rq hC [] [2,29] [(2,vS x1)] [] [] (qr eR))
theorem sH{p}{r}(h:jJ n p=some r):PQ G 51 [V.agg (dT p)] (vS r):=by
 unfold jJ at h
 refine pq aQ Tryz.func51 rfl fun w X hC=> ?_
 refine rq hC [.z (.b (true))] [1,2] [(1,V.tp (cL p))] [] [] (qs ?_)
 obtain⟨x1,hx1,h⟩:=bd h
 refine rq hC [oV (iP G hx1)] [9,10,11] [(11,vB (!x1))] [] [] (aS h (fun c1 h=> ?_) (fun c1 h=> ?_))
 ·obtain rfl:=so h
  exact rq hC [] [2] [(2,vS [])] [] [] (qr eR)
 ·refine qk (rq hC [] [3] [(3,vS [112,114,111,103,114,97,109,10])] [] [] (qs (rq hC [] [4] [(4,vI 0)] [] [] (qb (jH h (fun x_=>bA [(1,V.tp (cL p)),(3,vS x_.1),(4,vI x_.2)] [] []) lS ?_)))))
  rintro again4 ⟨x2,x3⟩ h
  refine qs (rq hC [oN aL p.arrays] (fr 12 5) [(16,vB (decide (x3<(p.arrays.length:Int))))] [] [] (aS h (fun c2 h=> ?_) (fun c2 h=> ?_)))
  ·refine qk (qs (qb ?_))
   obtain⟨x5,hx5,x6,hx6,x7,hx7,h⟩:=kI h
   refine rq hC [oS hx5,oR aL hx6,oS hx7] [3,19,20,21,22,23,24,25,26,27] [(3,vS x7)] [] [] (qs (rq hC [] [5] [(5,vI 0)] [] [] (qb (jH h (fun x_=>bA [(1,V.tp (cL p)),(3,vS x_.1),(4,vI x3),(5,vI x_.2)] [] []) lS ?_))))
   rintro again10 ⟨x8,x9⟩ h
   refine qs (rq hC [oR aL hx6,oN rI x6.dims] (fr 28 9) [(36,vB (decide (x9<(x6.dims.length:Int))))] [] [] (aS h (fun c3 h=> ?_) (fun c3 h=> ?_)))
   ·refine qk (qs (qb ?_))
    obtain⟨x11,hx11,x12,hx12,x13,hx13,h⟩:=kI h
    obtain⟨x14,hx14,h⟩:=bd h
    exact rk hC [oS hx11,oR aL hx6,oR rI hx12,oV (nQ G n x12 hx13),oS hx14] [3,39,40,41,42,43,44,45,46,47,48,49,50,51] [(3,vS x14)] [] [] (rk hC [] [5,37,38] [(5,vI (wr (x9+1)))] [] [] (lE h))
   ·refine dE ?_
    obtain⟨x15,hx15,h⟩:=bd h
    exact rk hC [oS hx15] [3,52,53] [(3,vS x15)] [] [] (rk hC [] [4,17,18] [(4,vI (wr (x3+1)))] [] [] (lE h))
  ·refine dE (qs (rq hC [] [6] [(6,vI 0)] [] [] (qb (jH h (fun x_=>bA [(1,V.tp (cL p)),(3,vS x_.1),(6,vI x_.2)] [] []) lS ?_))))
   rintro again18 ⟨x16,x17⟩ h
   refine qs (rq hC [oN aE p.parts] (fr 54 5) [(58,vB (decide (x17<(p.parts.length:Int))))] [] [] (aS h (fun c4 h=> ?_) (fun c4 h=> ?_)))
   ·refine qk (qs (qb ?_))
    obtain⟨x19,hx19,x20,hx20,x21,hx21,h⟩:=kI h
    obtain⟨x22,hx22,h⟩:=bd h
    refine rq hC [oS hx19,oR aE hx20,oV (V9 G hx21),oS hx22] [3,61,62,63,64,65,66,67,68,69,70] [(3,vS x22)] [] [] (rq hC [] [7] [(7,vI 0)] [] [] (qb (jH h (fun x_=>bA [(1,V.tp (cL p)),(3,vS x_.1),(6,vI x17),(7,vI x_.2)] [] []) lS ?_)))
    rintro again25 ⟨x23,x24⟩ h
    refine qs (rq hC [oR aE hx20,oN aR x20.body] (fr 71 9) [(79,vB (decide (x24<(x20.body.length:Int))))] [] [] (aS h (fun c5 h=> ?_) (fun c5 h=> ?_)))
    ·refine qk (qs (qb ?_))
     obtain⟨x26,hx26,h⟩:=bd h
     refine rq hC [oR aE hx20,oR aR hx26,.z (.nat 20)] [8,82,83,84,85,86,87,88,89,90] [(8,V.ref 20 0)] [(20,some (E.cells (hS x26)))] [(20,true)] ?_
     obtain⟨x27,hx27,x28,hx28,x29,hx29,h⟩:=kI h
     obtain⟨x30,hx30,x31,hx31,x32,hx32,h⟩:=kI h
     exact dk hC bO [oV (iN G hx27),oS hx28,oS hx29,oV (xX G n x26.value hx30),oS hx31,oS hx32] [3,91,92,93,94,95,96,97,98,99,100,101] [(3,vS x32)] [] [] (rk hC [] [7,80,81] [(7,vI (wr (x24+1)))] [] [] (lE h))
    ·exact dE (rk hC [] [6,59,60] [(6,vI (wr (x17+1)))] [] [] (lE h))
   ·obtain rfl:=so h
    exact dE (rq hC [] [2,102] [(2,vS x16)] [] [] (qr eR))
theorem mO{text}{r}(h:cM n text=some r):PQ G 23 [vS text] (V.tup [V.agg (dT r.1),vB r.2]):=by
 unfold cM at h
 refine pq aQ Tryz.func23 rfl fun w X hC=> ?_
 refine rq hC [.z (.nat 20)] [2,3] [(2,V.ref 20 0)] [(20,sc [V.t T.nilS,V.t T.nilS])] [(20,true)] ?_
 obtain⟨x1,hx1,h⟩:=bd h
 refine rq hC [oC [] [21] (qW G hx1)] [4,7,8] [(4,ms 21 1 1 rS x1)] [(21,some (ar 9 1 1 rS x1))] [(21,true)] (rq hC [.z (.nat 22)] [5,9] [(5,V.ref 22 0)] [(22,sc [V.t T.nilS,V.t T.nilS])] [(22,true)] (qs (rq hC [oN rS x1] [10,11,12] [(12,vB (decide ((42:Int)<(x1.length:Int))))] [] [] (aS h (fun c1 h=> ?_) (fun c1 h=> ?_)))))
 ·obtain rfl:=so h
  exact rq hC [] [3,13] [(3,vB false)] [(20,sc [V.t T.nilS,V.t T.nilS])] [] (qr eR)
 ·refine qk (qs (rq hC [] [6] [(6,vI 1)] [] [] (qb (qw (lk hC [.growc 22 0 23 58,.growc 22 1 24 43,.tre 24 o6 0] [] [] [(23,some (ar 58 1 2 aL [])),(24,some (E.tree o6 0 1 (List.map aE []) [])),(22,sc [ms 23 1 2 aL [],ms 24 1 2 aE []])] [(23,true),(24,true)]) (bJ (γ:=Nat×Nat) h (fun x_ g_=>bA [(0,vS text),(2,V.ref 20 0),(4,ms 21 1 1 rS x1),(5,V.ref 22 0),(6,vI x_.2.2)] [(20,E.cells [V.t T.nilS,V.t T.nilS]),(21,ar 9 1 1 rS x1),(22,E.cells [ms 23 g_.1 2 aL x_.1,ms 24 g_.2 2 aE x_.2.1]),(23,ar 58 g_.1 2 aL x_.1),(24,E.tree o6 0 g_.2 (List.map aE x_.2.1) [])] [20,21,22,23,24]) (1,1) (lS) ?_)))))
  rintro again5 ⟨x2,x3,x4⟩ ⟨g5,g6⟩ h
  refine qs (rq hC [oN rS x1] (fr 14 5) [(18,vB (decide (wr (x4+1)<(x1.length:Int))))] [] [] (aS h (fun c2 h=> ?_) (fun c2 h=> ?_)))
  ·refine qk (qs (qb ?_))
   obtain⟨x6,hx6,x7,hx7,h⟩:=d7 h
   exact dk hC bO [oQ (pQ rS hx6),oX rS hx6,oC [23,24] [] (V3 G n (⟨x2,x3⟩:Prog) x6 g5 g6 hx7)] (fr 21 6) [] [(23,some (ar 58 (g5+1) 2 aL x7.arrays)),(24,some (E.tree o6 0 (g6+1) (List.map aE x7.parts) [])),(22,sc [ms 23 (g5+1) 2 aL x7.arrays,ms 24 (g6+1) 2 aE x7.parts])] [(23,true),(24,true)] (rk hC [] [6,19,20] [(6,vI (wr (x4+1)))] [] [] ⟨(x7.arrays,x7.parts,wr (x4+1)),(g5+1,g6+1),h,lS⟩)
  ·refine dE (qs (vj h (fun x_=>bA [(2,V.ref 20 0),(5,V.ref 22 0),(34,vB x_)] [(20,E.cells [V.t T.nilS,V.t T.nilS]),(21,ar 9 1 1 rS x1),(22,E.cells [ms 23 g5 2 aL x2,ms 24 g6 2 aE x3]),(23,ar 58 g5 2 aL x2),(24,E.tree o6 0 g6 (List.map aE x3) [])] [20,21,22,23,24]) (fun j8 h=> ?_) (fun x10 h=> ?_)))
   ·
    refine aT h (fun c3 h=> ?_) (fun c3 h=> ?_)
    ·obtain⟨x9,hx9,h⟩:=bd h
     exact rk hC ([oF c3,oF c3,.z (.b true),.z (.nat 23),.z (.nat 24),oV (sH G hx9)]++rF 3 c3) (fr 27 8) [(34,vB (!decide (x9=text)))] [] [] (lE h)
    ·exact rk hC (rT 5 c3) (fr 27 8) [(34,vB true)] [] [] (lE h)
   ·refine aS h (fun c4 h=> ?_) (fun c4 h=> ?_)
    ·obtain rfl:=so h
     exact rq hC [] [3,35] [(3,vB false)] [(20,sc [V.t T.nilS,V.t T.nilS])] [] (qr eR)
    ·obtain rfl:=so h
     exact qk (qs (qw (lk hC [.fz 23 [] [22],.shd 24,.fz 24 [] [22]] [] [] [(22,sc [vM aL x2,vM aE x3]),(23,none),(24,none)] []) (rk hC [] [3,36] [(3,vB true)] [(20,sc [vM aL x2,vM aE x3])] [] (qr eR))))
theorem V1{r_a0}{r}(h:oH n r_a0=some r):VQ G 24 [eL r_a0] [V.ref 0 0] (V.agg (dT r.1)) [eL r.2]:=by
 unfold oH at h
 refine vq aQ Tryz.func24 rfl fun w X β0 hC hg=> ?_
 refine rq hC [.z (.nat 20)] [2] [(2,V.ref 20 0)] [(20,sc [V.t T.nilS,V.t T.nilS])] [(20,true)] ?_
 obtain⟨x1,hx1,h⟩:=bd h
 refine rq hC [.z (.int 0),oC [0] [] (gX G hx1)] [3,6,7,8] [(3,vS x1.1)] [(0,sR x1.2)] [(0,true)] ?_
 obtain⟨x2,hx2,x3,hx3,h⟩:=d7 h
 refine rq hC [oS hx2,oV (mO G hx3),.z (.nat 21)] [4,5,9,10,11,12,13,14] [(4,V.ref 21 0),(5,vB x3.2)] [(21,some (E.cells (dT x3.1)))] [(21,true)] (qs (vj h (fun x_=>bA [(0,V.ref 0 0),(2,V.ref 20 0),(4,V.ref 21 0),(20,vB x_.2.2)] [(0,E.cells [vM rY x_.1,vI x_.2.1]),(20,E.cells [V.t T.nilS,V.t T.nilS]),(21,E.cells (dT x3.1))] [0,20,21]) (fun j4 h=> ?_) ?_))
 ·
  refine aT h (fun c1 h=> ?_) (fun c1 h=> ?_)
  ·exact rk hC (rF 4 c1) (fr 15 6) [(20,vB false)] [] [] (lE h)
  ·obtain⟨x5,hx5,h⟩:=bd h
   exact rk hC [oT c1,oT c1,oC [0] [] (bB G hx5),oT c1,oT c1] (fr 15 6) [(20,vB (decide ((0:Int)<x5.1)))] [(0,sR x5.2)] [(0,true)] (lE h)
 ·rintro⟨x6,x7,x8⟩ h
  refine aS h (fun c2 h=> ?_) (fun c2 h=> ?_)
  ·obtain rfl:=so h
   exact rq hC [] [21] [] [(20,some (E.cells (dT x3.1)))] [] (qr eW)
  ·refine qk ?_
   obtain⟨x9,hx9,h⟩:=bd h
   obtain rfl:=so h
   exact rq hC [oC [0] [] (V4 G hx9)] [22,23] [] [(0,sR x9.2),(20,some (E.cells (dT x9.1)))] [(0,true)] (qr eW)
theorem O5{r_a0}{r}(h:mB n r_a0=some r):VQ G 12 [eL r_a0] [V.ref 0 0] (V.agg (dT r.1)) [eL r.2]:=by
 unfold mB at h
 refine vq aQ Tryz.func12 rfl fun w X β0 hC hg=> ?_
 refine rq hC [.z (.nat 20)] [2] [(2,V.ref 20 0)] [(20,sc [V.t T.nilS,V.t T.nilS])] [(20,true)] ?_
 obtain⟨x1,hx1,h⟩:=bd h
 refine rq hC [.z (.int 0),oC [0] [] (gX G hx1)] [3,6,7,8] [(3,vS x1.1)] [(0,sR x1.2)] [(0,true)] ?_
 obtain⟨x2,hx2,x3,hx3,h⟩:=d7 h
 refine rq hC [oS hx2,oV (mO G hx3),.z (.nat 21)] [4,5,9,10,11,12,13,14] [(4,V.ref 21 0),(5,vB x3.2)] [(21,some (E.cells (dT x3.1)))] [(21,true)] (qs (vj h (fun x_=>bA [(0,V.ref 0 0),(2,V.ref 20 0),(4,V.ref 21 0),(20,vB x_.2.2)] [(0,E.cells [vM rY x_.1,vI x_.2.1]),(20,E.cells [V.t T.nilS,V.t T.nilS]),(21,E.cells (dT x3.1))] [0,20,21]) (fun j4 h=> ?_) ?_))
 ·
  refine aT h (fun c1 h=> ?_) (fun c1 h=> ?_)
  ·exact rk hC (rF 4 c1) (fr 15 6) [(20,vB false)] [] [] (lE h)
  ·obtain⟨x5,hx5,h⟩:=bd h
   exact rk hC [oT c1,oT c1,oC [0] [] (bB G hx5),oT c1,oT c1] (fr 15 6) [(20,vB (decide (x5.1=0)))] [(0,sR x5.2)] [(0,true)] (lE h)
 ·rintro⟨x6,x7,x8⟩ h
  refine aS h (fun c2 h=> ?_) (fun c2 h=> ?_)
  ·obtain rfl:=so h
   exact rq hC [] [21] [] [(20,some (E.cells (dT x3.1)))] [] (qr eW)
  ·refine qk ?_
   obtain⟨x9,hx9,h⟩:=bd h
   obtain rfl:=so h
   exact rq hC [oC [0] [] (V1 G hx9)] [22,23] [] [(0,sR x9.2),(20,some (E.cells (dT x9.1)))] [(0,true)] (qr eW)
theorem nR{code}{r}(h:cN n code=some r):PQ G 4 [vM rY code] (V.agg (dT r)):=by
 unfold cN at h
 refine pq aQ Tryz.func4 rfl fun w X hC=> ?_
 refine rq hC [.z (.nat 20)] [2] [(2,V.ref 20 0)] [(20,sc [V.t T.nilS,V.t T.nilS])] [(20,true)] ?_
 obtain⟨x1,hx1,h⟩:=bd h
 refine rq hC [oC [] [21] (O4 G hx1)] [3,4,5] [(3,V.ref 21 0)] [(21,sR x1)] [(21,true)] ?_
 obtain⟨x2,hx2,x3,hx3,h⟩:=d7 h
 obtain rfl:=so h
 exact rq hC [oC [21] [] (O5 G hx2),oC [21] [] (G5 G hx3)] (fr 6 4) [] [(21,sR x3.2),(20,some (E.cells (dT x3.1)))] [(21,true),(21,true)] (qr eR)
theorem sI(G:GS)(n:Nat)(s:List Int)(fF:FuncId)(f:Int→Option Bool)(hf: ∀(q0:Int) r,f q0=some r→PQ G fF [vI q0] (vB r)){r:Int}(h:cU n s f=some r):PQ G 58 [vM rI s,V.fn fF []] (vI r):=by
 unfold cU at h
 refine pq aQ Tryz.func58 rfl fun w X hC=> ?_
 refine rq hC [] [4] [] [] [] (qs (rq hC [oN rI s] [6,7,8] [(7,vI (s.length:Int)),(8,vI 0)] [] [] (qb (jH h (fun x_=>bA [(0,vM rI s),(1,V.fn fF []),(7,vI (s.length:Int)),(8,vI x_)] [] []) lS ?_))))
 rintro again2 x1 h
 refine rq hC [] [9] [(9,vB (decide (x1<(s.length:Int))))] [] [] (qs (aS h (fun c1 h=> ?_) (fun c1 h=> ?_)))
 ·refine qk (qs (qb (rq hC [] [5,10] [(5,vI x1)] [] [] ?_)))
  obtain⟨x3,hx3,x4,hx4,h⟩:=d7 h
  refine rq hC [oR rI hx3,oV (hf x3 _ hx4)] (fr 11 6) [(16,vB x4)] [] [] (aS h (fun c2 h=> ?_) (fun c2 h=> ?_))
  ·obtain rfl:=so h
   exact rq hC [] [4,17] [(4,vI x1)] [] [] (qr eR)
  ·exact qk (rk hC [] [8,18] [(8,vI (wr (x1+1)))] [] [] (lE h))
 ·obtain rfl:=so h
  exact dE (rq hC [] [4] [(4,vI (-1))] [] [] (qr eR))
theorem b6(G:GS)(n:Nat)(s:List Int)(fF:FuncId)(f:Int→Option Bool)(hf: ∀(q0:Int) r,f q0=some r→PQ G fF [vI q0] (vB r)){r:Bool}(h:aV n s f=some r):PQ G 28 [vM rI s,V.fn fF []] (vB r):=by
 unfold aV at h
 refine pq aQ Tryz.func28 rfl fun w X hC=> ?_
 refine rq hC [] [4] [] [] [] ?_
 obtain⟨x1,hx1,h⟩:=bd h
 obtain rfl:=so h
 exact rq hC [oV (sI G n s fF f hf hx1)] (fr 4 5) [(4,vB (decide ((0:Int)≤x1)))] [] [] (qr eR)
theorem bH{n_a0}{low}{high}{r}(h:bV n n_a0 low high=some r):PQ G 37 [vI n_a0,vI low,vI high] (vB r):=by
 unfold bV at h
 refine pq aQ Tryz.func37 rfl fun w X hC=> ?_
 refine rq hC [] [6] [] [] [] (vj h (fun x_=>bA [(6,vB x_)] [] []) (fun j1 h=> ?_) (fun x2 h=> ?_))
 ·
  refine aT h (fun c1 h=> ?_) (fun c1 h=> ?_)
  ·exact rk hC (rF 4 c1) (fr 6 9) [(6,vB false)] [] [] (lE h)
  ·exact rk hC (rT 4 c1) (fr 6 9) [(6,vB (decide (n_a0≤high)))] [] [] (lE h)
 ·obtain rfl:=so h
  exact qr eR
theorem pD(G:GS)(n:Nat)(n_a0:Int){r:Bool}(h:cZ n n_a0=some r):PQ G 61 [vI n_a0] (vB r):=by
 unfold cZ at h
 refine pq aQ Tryz.func61 rfl fun w X hC=> ?_
 refine rq hC [] [2] [] [] [] ?_
 obtain⟨x1,hx1,h⟩:=bd h
 obtain rfl:=so h
 exact rq hC [oV (bH G hx1)] (fr 2 4) [(2,vB (!x1))] [] [] (qr eR)
theorem dQ{s}{r}(h:kG n s=some r):PQ G 60 [vS s] (vB r):=by
 unfold kG at h
 refine pq aQ Tryz.func60 rfl fun w X hC=> ?_
 refine rq hC [] [2] [] [] [] (vj h (fun x_=>bA [(2,vB x_)] [] []) (fun j1 h=> ?_) (fun x3 h=> ?_))
 ·
  refine aT h (fun c1 h=> ?_) (fun c1 h=> ?_)
  ·exact rk hC (rF 3 c1) (fr 2 8) [(2,vB false)] [] [] (lE h)
  ·obtain⟨x2,hx2,h⟩:=bd h
   exact rk hC [oT c1,oT c1,oV (G.contains [65,66,67,68] s x2 hx2),oT c1] (fr 2 8) [(2,vB x2)] [] [] (lE h)
 ·obtain rfl:=so h
  exact qr eR
theorem sJ{list}{r}(h:kX n list=some r):PQ G 35 [vM aL list] (vB r):=by
 unfold kX at h
 refine pq aQ Tryz.func35 rfl fun w X hC=> ?_
 refine rq hC [] [2] [] [] [] (qs (rq hC [oN aL list] [5,6,7] [(5,vM aL list),(6,vI (list.length:Int)),(7,vI 0)] [] [] (qb (jH h (fun x_=>bA [(0,vM aL list),(5,vM aL list),(6,vI (list.length:Int)),(7,vI x_)] [] []) lS ?_))))
 rintro again2 x1 h
 refine rq hC [] [8] [(8,vB (decide (x1<(list.length:Int))))] [] [] (qs (aS h (fun c1 h=> ?_) (fun c1 h=> ?_)))
 ·refine qk (qs (qb ?_))
  obtain⟨x3,hx3,h⟩:=bd h
  refine rq hC [oR aL hx3,.z (.nat 20)] [3,4,9,10,11] [(3,vI x1),(4,V.ref 20 0)] [(20,sc [vS x3.name,vM rI x3.dims])] [(20,true)] (vj h (fun x_=>bA [(0,vM aL list),(5,vM aL list),(6,vI (list.length:Int)),(7,vI x1),(42,vB x_)] [(20,E.cells [vS x3.name,vM rI x3.dims])] [20]) (fun j4 h=> ?_) (fun x11 h=> ?_))
  ·
   obtain⟨x5,hx5,h⟩:=bd h
   refine aT h (fun c2 h=> ?_) (fun c2 h=> ?_)
   ·refine aT h (fun c3 h=> ?_) (fun c3 h=> ?_)
    ·obtain⟨x6,hx6,h⟩:=bd h
     refine aT h (fun c4 h=> ?_) (fun c4 h=> ?_)
     ·obtain⟨x7,hx7,h⟩:=bd h
      exact dk hC bO ([oV (dQ G hx5)]++rF 3 c2++rF 9 c3++[oF c2,oF c3,oF c2,eF,eF,eF,oN rI x3.dims,eF,oV (bH G hx6),eF,eF]++rF 3 c4++[oV (b6 G n x3.dims 61 (fun q0=>cZ n q0) (fun q0 r h=>pD G n q0 h) hx7),oF c4]) (fr 12 31) [(42,vB x7)] [] [] (lE h)
     ·exact dk hC bO ([oV (dQ G hx5)]++rF 3 c2++rF 9 c3++[oF c2,oF c3,oF c2,eF,eF,eF,oN rI x3.dims,eF,oV (bH G hx6),eF,eF]++rT 4 c4) (fr 12 31) [(42,vB true)] [] [] (lE h)
    ·obtain⟨x8,hx8,h⟩:=bd h
     refine aT h (fun c5 h=> ?_) (fun c5 h=> ?_)
     ·obtain⟨x9,hx9,h⟩:=bd h
      refine aT h (fun c6 h=> ?_) (fun c6 h=> ?_)
      ·obtain⟨x10,hx10,h⟩:=bd h
       exact dk hC bO ([oV (dQ G hx5)]++rF 3 c2++rT 4 c3++[oR aL hx8]++rT 5 c3++[oF c2,oT c3,oF c2]++rF 3 c5++[oN rI x3.dims,oF c5,oV (bH G hx9),oF c5,oF c5]++rF 3 c6++[oV (b6 G n x3.dims 61 (fun q0=>cZ n q0) (fun q0 r h=>pD G n q0 h) hx10),oF c6]) (fr 12 31) [(42,vB x10)] [] [] (lE h)
      ·exact dk hC bO ([oV (dQ G hx5)]++rF 3 c2++rT 4 c3++[oR aL hx8]++rT 5 c3++[oF c2,oT c3,oF c2]++rF 3 c5++[oN rI x3.dims,oF c5,oV (bH G hx9),oF c5,oF c5]++rT 4 c6) (fr 12 31) [(42,vB true)] [] [] (lE h)
     ·exact dk hC bO ([oV (dQ G hx5)]++rF 3 c2++rT 4 c3++[oR aL hx8]++rT 5 c3++[oF c2,oT c3,oF c2]++rT 6 c5++sT 4) (fr 12 31) [(42,vB true)] [] [] (lE h)
   ·exact dk hC bO ([oV (dQ G hx5)]++rT 5 c2++sT 10) (fr 12 31) [(42,vB true)] [] [] (lE h)
  ·refine aS h (fun c7 h=> ?_) (fun c7 h=> ?_)
   ·obtain rfl:=so h
    exact rq hC [] [2] [(2,vB false)] [] [] (qr eR)
   ·exact qk (rk hC [] [7,43] [(7,vI (wr (x1+1)))] [] [] (lE h))
 ·obtain rfl:=so h
  exact dE (rq hC [oN aL list] [2,44,45,46] [(2,vB (decide ((list.length:Int)≤4)))] [] [] (qr eR))
theorem sK(G:GS)(n:Nat)(c:Int){r:Bool}(h:dM n c=some r):PQ G 133 [vI c] (vB r):=by
 unfold dM at h
 refine pq aQ Tryz.func133 rfl fun w X hC=> ?_
 refine rq hC [] [2] [] [] [] ?_
 obtain⟨x1,hx1,h⟩:=bd h
 obtain rfl:=so h
 exact rq hC [oV (bH G hx1)] (fr 2 4) [(2,vB (!x1))] [] [] (qr eR)
theorem pC{n_a0}{r}(h:kF n n_a0=some r):PQ G 31 [vI n_a0] (vB r):=by
 unfold kF at h
 refine pq aQ Tryz.func31 rfl fun w X hC=> ?_
 refine rq hC [] [2] [] [] [] ?_
 obtain⟨x1,hx1,h⟩:=bd h
 obtain rfl:=so h
 exact rq hC [oV (bH G hx1)] [2,3,4] [(2,vB x1)] [] [] (qr eR)
theorem cW{a}{r}(h:dS n a=some r):PQ G 99 [V.agg (bC a)] (vB r):=by
 unfold dS at h
 refine pq aQ Tryz.func99 rfl fun w X hC=> ?_
 refine rq hC [.z (.b (true))] [1,2] [(1,V.tp (bI a))] [] [] (vj h (fun x_=>bA [(2,vB x_)] [] []) (fun j1 h=> ?_) (fun x4 h=> ?_))
 ·
  refine aT h (fun c1 h=> ?_) (fun c1 h=> ?_)
  ·exact rk hC ([oN rI a.coefs]++rF 4 c1++sF 5) (fr 2 16) [(2,vB false)] [] [] (lE h)
  ·obtain⟨x2,hx2,h⟩:=bd h
   refine aT h (fun c2 h=> ?_) (fun c2 h=> ?_)
   ·exact rk hC ([oN rI a.coefs]++rT 3 c1++[oV (pC G hx2),oT c1]++rF 5 c2) (fr 2 16) [(2,vB false)] [] [] (lE h)
   ·obtain⟨x3,hx3,h⟩:=bd h
    exact rk hC ([oN rI a.coefs]++rT 3 c1++[oV (pC G hx2),oT c1]++rT 3 c2++[oV (b6 G n a.coefs 133 (fun q0=>dM n q0) (fun q0 r h=>sK G n q0 h) hx3),oT c2,oT c2]) (fr 2 16) [(2,vB (!x3))] [] [] (lE h)
 ·obtain rfl:=so h
  exact qr eR
theorem fQ{a}{r}(h:dJ n a=some r):PQ G 100 [V.agg (bC a)] (vI r):=by
 unfold dJ at h
 refine pq aQ Tryz.func100 rfl fun w X hC=> ?_
 refine rq hC [.z (.b (true))] [1,2] [(1,V.tp (bI a))] [] [] (rq hC [oN rI a.coefs] (fr 3 4) [(3,vI (a.coefs.length:Int))] [] [] (qs (qb (jH h (fun x_=>bA [(1,V.tp (bI a)),(3,vI x_)] [] []) lS ?_))))
 rintro again2 x1 h
 refine qs (vj h (fun x_=>bA [(1,V.tp (bI a)),(3,vI x1),(17,vB x_)] [] []) (fun j3 h=> ?_) (fun x5 h=> ?_))
 ·
  refine aT h (fun c1 h=> ?_) (fun c1 h=> ?_)
  ·exact rk hC (rF 8 c1) (fr 7 11) [(17,vB false)] [] [] (lE h)
  ·obtain⟨x4,hx4,h⟩:=bd h
   exact rk hC (rT 5 c1++[oR rI hx4]++rT 3 c1) (fr 7 11) [(17,vB (decide (x4=0)))] [] [] (lE h)
 ·refine aS h (fun c2 h=> ?_) (fun c2 h=> ?_)
  ·exact qk (qb (rk hC [] [3,18,19] [(3,vI (wr (x1-1)))] [] [] (lE h)))
  ·obtain rfl:=so h
   exact dE (rq hC [] [2,20] [(2,vI x1)] [] [] (qr eR))
theorem yI(G:GS)(n:Nat)(a:Affine)(c0__a1:Int){r:Bool}(h:eC n a c0__a1=some r):PQ G 131 [V.agg (bC a),V.tp [T.int .i64 c0__a1]] (vB r):=by
 unfold eC at h
 refine pq aQ Tryz.func131 rfl fun w X hC=> ?_
 refine rq hC [.z (.b (true))] [2,3] [(2,V.tp (bI a))] [] [] (vj h (fun x_=>bA [(3,vB x_)] [] []) (fun j1 h=> ?_) (fun x4 h=> ?_))
 ·
  obtain⟨x2,hx2,h⟩:=bd h
  refine aT h (fun c1 h=> ?_) (fun c1 h=> ?_)
  ·obtain⟨x3,hx3,h⟩:=bd h
   exact dk hC bO ([oV (cW G hx2),oF c1,oF c1,oV (fQ G hx3)]++rF 3 c1) (fr 3 10) [(3,vB (decide (c0__a1<x3)))] [] [] (lE h)
  ·exact dk hC bO ([oV (cW G hx2)]++rT 5 c1) (fr 3 10) [(3,vB true)] [] [] (lE h)
 ·obtain rfl:=so h
  exact qr eR
theorem mP(G:GS)(n:Nat)(s:List Affine)(fF:FuncId)(fC0:List T)(f:Affine→Option Bool)(hf: ∀(q0:Affine) r,f q0=some r→PQ G fF [V.agg (bC q0),V.tp fC0] (vB r)){r:Int}(h:eA n s f=some r):PQ G 132 [vM aB s,V.fn fF [V.tp fC0]] (vI r):=by
 unfold eA at h
 refine pq aQ Tryz.func132 rfl fun w X hC=> ?_
 refine rq hC [] [4] [] [] [] (qs (rq hC [oN aB s] [6,7,8] [(7,vI (s.length:Int)),(8,vI 0)] [] [] (qb (jH h (fun x_=>bA [(0,vM aB s),(1,V.fn fF [V.tp fC0]),(7,vI (s.length:Int)),(8,vI x_)] [] []) lS ?_))))
 rintro again2 x1 h
 refine rq hC [] [9] [(9,vB (decide (x1<(s.length:Int))))] [] [] (qs (aS h (fun c1 h=> ?_) (fun c1 h=> ?_)))
 ·refine qk (qs (qb (rq hC [] [5,10] [(5,vI x1)] [] [] ?_)))
  obtain⟨x3,hx3,x4,hx4,h⟩:=d7 h
  refine rq hC [oR aB hx3,oV (hf x3 _ hx4)] (fr 11 6) [(16,vB x4)] [] [] (aS h (fun c2 h=> ?_) (fun c2 h=> ?_))
  ·obtain rfl:=so h
   exact rq hC [] [4,17] [(4,vI x1)] [] [] (qr eR)
  ·exact qk (rk hC [] [8,18] [(8,vI (wr (x1+1)))] [] [] (lE h))
 ·obtain rfl:=so h
  exact dE (rq hC [] [4] [(4,vI (-1))] [] [] (qr eR))
theorem fH(G:GS)(n:Nat)(s:List Affine)(fF:FuncId)(fC0:List T)(f:Affine→Option Bool)(hf: ∀(q0:Affine) r,f q0=some r→PQ G fF [V.agg (bC q0),V.tp fC0] (vB r)){r:Bool}(h:bT n s f=some r):PQ G 97 [vM aB s,V.fn fF [V.tp fC0]] (vB r):=by
 unfold bT at h
 refine pq aQ Tryz.func97 rfl fun w X hC=> ?_
 refine rq hC [] [4] [] [] [] ?_
 obtain⟨x1,hx1,h⟩:=bd h
 obtain rfl:=so h
 exact rq hC [oV (mP G n s fF fC0 f hf hx1)] (fr 4 5) [(4,vB (decide ((0:Int)≤x1)))] [] [] (qr eR)
theorem nS{list}{depth}{r}(h:iJ n list depth=some r):PQ G 95 [vM aB list,vI depth] (vB r):=by
 unfold iJ at h
 refine pq aQ Tryz.func95 rfl fun w X hC=> ?_
 refine rq hC [.z (.b (true))] [3,4] [(3,V.tp [T.int .i64 depth])] [] [] (vj h (fun x_=>bA [(4,vB x_)] [] []) (fun j1 h=> ?_) (fun x4 h=> ?_))
 ·
  obtain⟨x2,hx2,h⟩:=bd h
  refine aT h (fun c1 h=> ?_) (fun c1 h=> ?_)
  ·exact rk hC ([oN aB list,oV (bH G hx2)]++rF 5 c1) (fr 4 10) [(4,vB false)] [] [] (lE h)
  ·obtain⟨x3,hx3,h⟩:=bd h
   exact rk hC ([oN aB list,oV (bH G hx2)]++rT 3 c1++[oV (fH G n list 131 [T.int .i64 depth] (fun q0=>eC n q0 depth) (fun q0 r h=>yI G n q0 depth h) hx3),oT c1,oT c1]) (fr 4 10) [(4,vB (!x3))] [] [] (lE h)
 ·obtain rfl:=so h
  exact qr eR
theorem y9{nest}{r}(h:jE n nest=some r):PQ G 62 [vM aC nest] (vB r):=by
 unfold jE at h
 refine pq aQ Tryz.func62 rfl fun w X hC=> ?_
 refine rq hC [] [2] [] [] [] (qs (rq hC [oN aC nest] [5,6,7] [(5,vM aC nest),(6,vI (nest.length:Int)),(7,vI 0)] [] [] (qb (jH h (fun x_=>bA [(0,vM aC nest),(5,vM aC nest),(6,vI (nest.length:Int)),(7,vI x_)] [] []) lS ?_))))
 rintro again2 x1 h
 refine rq hC [] [8] [(8,vB (decide (x1<(nest.length:Int))))] [] [] (qs (aS h (fun c1 h=> ?_) (fun c1 h=> ?_)))
 ·refine qk (qs (qb ?_))
  obtain⟨x3,hx3,h⟩:=bd h
  refine rq hC [oR aC hx3,.z (.nat 20)] [3,4,9,10,11] [(3,vI x1),(4,V.ref 20 0)] [(20,some (E.cells (B4 x3)))] [(20,true)] (vj h (fun x_=>bA [(0,vM aC nest),(5,vM aC nest),(6,vI (nest.length:Int)),(7,vI x1),(23,vB x_)] [(20,E.cells (B4 x3))] [20]) (fun j4 h=> ?_) (fun x7 h=> ?_))
  ·
   obtain⟨x5,hx5,h⟩:=bd h
   refine aT h (fun c2 h=> ?_) (fun c2 h=> ?_)
   ·obtain⟨x6,hx6,h⟩:=bd h
    exact rk hC ([oV (nS G hx5)]++rF 4 c2++[oV (nS G hx6),oF c2,oF c2]) (fr 12 12) [(23,vB (!x6))] [] [] (lE h)
   ·exact rk hC ([oV (nS G hx5)]++rT 6 c2) (fr 12 12) [(23,vB true)] [] [] (lE h)
  ·refine aS h (fun c3 h=> ?_) (fun c3 h=> ?_)
   ·obtain rfl:=so h
    exact rq hC [] [2] [(2,vB false)] [] [] (qr eR)
   ·exact qk (rk hC [] [7,24] [(7,vI (wr (x1+1)))] [] [] (lE h))
 ·obtain rfl:=so h
  exact dE (rq hC [oN aC nest] [2,25,26,27] [(2,vB (decide ((nest.length:Int)≤4)))] [] [] (qr eR))
theorem eN{a}{point}{r}(h:bW n a point=some r):PQ G 105 [V.agg (bC a),vM rI point] (vI r):=by
 unfold bW at h
 refine pq aQ Tryz.func105 rfl fun w X hC=> ?_
 refine rq hC [.z (.b (true))] [2,4] [(2,V.tp (bI a))] [] [] (rq hC [] [5,8,9] [(5,vI a.const)] [] [] (qs (rq hC [oN rI point] [10,11,12] [(10,vM rI point),(11,vI (point.length:Int)),(12,vI 0)] [] [] (qb (jH h (fun x_=>bA [(2,V.tp (bI a)),(5,vI x_.1),(10,vM rI point),(11,vI (point.length:Int)),(12,vI x_.2)] [] []) lS ?_)))))
 rintro again3 ⟨x1,x2⟩ h
 refine rq hC [] [13] [(13,vB (decide (x2<(point.length:Int))))] [] [] (qs (aS h (fun c1 h=> ?_) (fun c1 h=> ?_)))
 ·refine qk (qs (qb ?_))
  obtain⟨x4,hx4,h⟩:=bd h
  refine rq hC [oR rI hx4] [6,7,14,15,16] [(6,vI x2),(7,vI x4)] [] [] ?_
  obtain⟨x5,hx5,h⟩:=bd h
  exact rk hC [oR rI hx5] [5,17,18,19,20,21,22,23,24,25] [(5,vI (wr (x1+(wr (x5*x4)))))] [] [] (rk hC [] [12,26] [(12,vI (wr (x2+1)))] [] [] (lE h))
 ·obtain rfl:=so h
  exact dE (rq hC [] [4,27] [(4,vI x1)] [] [] (qr eR))
theorem zA{l}{point}{r}(h:jF n l point=some r):PQ G 96 [V.agg (B4 l),vM rI point] (V.tup [vI r.1,vI r.2]):=by
 unfold jF at h
 refine pq aQ Tryz.func96 rfl fun w X hC=> ?_
 refine rq hC [.z (.b (true))] [2,4,5] [(2,V.tp (vQ l))] [] [] (qs ?_)
 obtain⟨x1,hx1,x2,hx2,x3,hx3,h⟩:=kI h
 obtain⟨x4,hx4,h⟩:=bd h
 refine dk hC bO [oR aB hx1,oV (eN G hx2),oR aB hx3,oV (eN G hx4)] [6,7,12,13,14,15,16,17,18,19,20,21,22,23] [(6,vI x2),(7,vI x4)] [] [] (qs (rq hC [oN aB l.lo] (fr 24 4) [(25,vM aB l.lo),(26,vI (l.lo.length:Int)),(27,vI 0)] [] [] (qb (jH h (fun x_=>bA [(1,vM rI point),(2,V.tp (vQ l)),(6,vI x_.1),(7,vI x4),(25,vM aB l.lo),(26,vI (l.lo.length:Int)),(27,vI x_.2)] [] []) lS ?_))))
 rintro again7 ⟨x5,x6⟩ h
 refine rq hC [] [28] [(28,vB (decide (x6<(l.lo.length:Int))))] [] [] (qs (aS h (fun c1 h=> ?_) (fun c1 h=> ?_)))
 ·refine qk (qs (qb ?_))
  obtain⟨x8,hx8,h⟩:=bd h
  refine rq hC [oR aB hx8,.z (.nat 20)] [9,29,30] [(9,V.ref 20 0)] [(20,some (E.cells (bC x8)))] [(20,true)] ?_
  obtain⟨x9,hx9,h⟩:=bd h
  exact rk hC [oV (eN G hx9)] [6,31,32,33,34,35] [(6,vI (max x5 x9))] [] [] (rk hC [] [27,36] [(27,vI (wr (x6+1)))] [] [] (lE h))
 ·refine dE (qs (rq hC [oN aB l.hi] (fr 37 4) [(38,vM aB l.hi),(39,vI (l.hi.length:Int)),(40,vI 0)] [] [] (qb (jH h (fun x_=>bA [(1,vM rI point),(6,vI x5),(7,vI x_.1),(38,vM aB l.hi),(39,vI (l.hi.length:Int)),(40,vI x_.2)] [] []) lS ?_))))
  rintro again12 ⟨x10,x11⟩ h
  refine rq hC [] [41] [(41,vB (decide (x11<(l.hi.length:Int))))] [] [] (qs (aS h (fun c2 h=> ?_) (fun c2 h=> ?_)))
  ·refine qk (qs (qb ?_))
   obtain⟨x13,hx13,h⟩:=bd h
   refine rq hC [oR aB hx13,.z (.nat 20)] [11,42,43] [(11,V.ref 20 0)] [(20,some (E.cells (bC x13)))] [(20,true)] ?_
   obtain⟨x14,hx14,h⟩:=bd h
   exact rk hC [oV (eN G hx14)] [7,44,45,46,47,48] [(7,vI (min x10 x14))] [] [] (rk hC [] [40,49] [(40,vI (wr (x11+1)))] [] [] (lE h))
  ·obtain rfl:=so h
   exact dE (rq hC [] [4,5,50,51] [(4,vI x5),(5,vI x10)] [] [] (qr eR))
theorem tT(G:GS): ∀(n:Nat) (w_a0:Walking) (w_a0G2:Nat) (point:List Int) {r:Bool×Walking} (h:i_walking_walk n w_a0 point=some r),VQ G 63 [E.cells [vM aC w_a0.nest,vI w_a0.steps,ms 1 w_a0G2 1 (rL rI) w_a0.out],ar 56 w_a0G2 1 (rL rI) w_a0.out] [V.ref 0 0,vM rI point] (vB r.1) [E.cells [vM aC r.2.nest,vI r.2.steps,ms 1 (w_a0G2+1) 1 (rL rI) r.2.out],ar 56 (w_a0G2+1) 1 (rL rI) r.2.out]:=by
 intro n
 induction n with
 |zero=>intro w_a0 w_a0G2 point r h;rw [i_walking_walk.eq_def] at h;cases h
 |succ n ih=>
  intro w_a0 w_a0G2 point r h
  rw [i_walking_walk.eq_def] at h;dsimp only at h
  refine vq aQ Tryz.func63 rfl fun w X β0 hC hg=> ?_
  refine rq hC [] [4] [] [] [] (qs (rq hC [oN rI point,oN aC w_a0.nest] (fr 8 8) [(15,vB (decide ((point.length:Int)=(w_a0.nest.length:Int))))] [] [] (aS h (fun c1 h=> ?_) (fun c1 h=> ?_))))
  ·refine qs ?_
   obtain⟨x1,hx1,x2,hx2,h⟩:=d7 h
   obtain rfl:=so h
   exact dk hC bO [oC [] [20] (G.clone point hx1),.z (.at 5),.z (.fz 20 [22] []),.z (.int 0),oA (aO (rL rI) hx2),oQ (b8 (r:=(rL rI)) 1 (fun _=>rfl) w_a0.out),oQ (b8 (r:=(rL rI)) 1 (fun _=>rfl) [x1])] (fr 16 11) [] [(20,none),(1,some (ar 56 (w_a0G2+1) 1 (rL rI) x2)),(0,sc [vM aC w_a0.nest,vI w_a0.steps,ms 1 (w_a0G2+1) 1 (rL rI) x2])] [(20,true)] (rq hC [oN (rL rI) x2] [4,27,28,29,30,31,32] [(4,vB (decide ((x2.length:Int)≤120)))] [] [] (qw (cO 0 2 1 w_a0G2 (w_a0G2+1) 1 0 (List.map (rL rI) x2).length (e:= .arr 56 (w_a0G2+1) 1 (List.map (rL rI) x2)) (cs:=[vM aC w_a0.nest,vI w_a0.steps,ms 1 (w_a0G2+1) 1 (rL rI) x2]) rfl (by kernel_rfl) (by kernel_rfl) (by kernel_rfl) (by kernel_rfl) rfl rfl hg.2.1) (qr eW)))
  ·refine qk ?_
   obtain⟨x3,hx3,x4,hx4,h⟩:=d7 h
   refine rq hC [oN rI point,oR aC hx3,oV (zA G hx4)] [5,6,33,34,35,36,37,38,39,40,41,42,43,44,45] [(5,vI x4.1),(6,vI x4.2)] [] [] (qs (rq hC [] [7,46] [(7,vI x4.1)] [] [] (qb (bJ (γ:=Nat) h (fun x_ g_=>bA [(0,V.ref 0 0),(1,vM rI point),(6,vI x4.2),(7,vI x_.2.2.2)] [(0,E.cells [vM aC x_.1,vI x_.2.1,ms 1 g_ 1 (rL rI) x_.2.2.1]),(1,ar 56 g_ 1 (rL rI) x_.2.2.1)] [0,1]) w_a0G2 (lS) ?_))))
   rintro again10 ⟨x5,x6,x7,x8⟩ g9 h
   refine qs (rq hC [] [47,48,49] [(49,vB (decide (x8<x4.2)))] [] [] (aS h (fun c2 h=> ?_) (fun c2 h=> ?_)))
   ·refine qk (qs (qb (rq hC [] (fr 52 7) [] [(0,sc [vM aC x5,vI (wr (x6+1)),ms 1 g9 1 (rL rI) x7])] [] ?_)))
    obtain⟨j11,hj11,h⟩:=yT h
    refine kK (γ:=Nat) (j:=j11) (r:=r) (fun x_ g_=>bA [(0,V.ref 0 0),(1,vM rI point),(6,vI x4.2),(7,vI x8),(74,vB x_.2.2.2)] [(0,E.cells [vM aC x_.1,vI x_.2.1,ms 1 g_ 1 (rL rI) x_.2.2.1]),(1,ar 56 g_ 1 (rL rI) x_.2.2.1)] [0,1]) ?_ ?_
    ·
     refine aT h (fun c3 h=> ?_) (fun c3 h=> ?_)
     ·obtain⟨x12,hx12,x13,hx13,x14,hx14,h⟩:=kI h
      exact rk hC (rF 3 c3++[oC [] [20] (G.clone point hx12),oF c3,oF c3,.z (.int 0),oF c3,oA (aO rI hx13),.z (.at 3),.z (.fz 20 [71] []),oQ (b8 (r:=rI) 1 (fun _=>rfl) x12),oQ (b8 (r:=rI) 1 (fun _=>rfl) [x8]),oF c3,oC [0,1] [] (ih (⟨x5,wr (x6+1),x7⟩:Walking) g9 x13 hx14),oF c3,oF c3]) (fr 59 16) [(74,vB (!x14.1))] [(20,none),(1,some (ar 56 (g9+1) 1 (rL rI) x14.2.out)),(0,sc [vM aC x14.2.nest,vI x14.2.steps,ms 1 (g9+1) 1 (rL rI) x14.2.out])] [(20,true),(0,true),(1,true)] ⟨(x14.2.nest,x14.2.steps,x14.2.out, !x14.1),(g9+1),h,lS⟩
     ·exact rk hC (rT 9 c3) (fr 59 16) [(74,vB true)] [] [] ⟨(x5,wr (x6+1),x7,true),g9,h,lS⟩
    ·rintro⟨x15,x16,x17,x18⟩ g19 h
     subst hj11
     refine aS h (fun c4 h=> ?_) (fun c4 h=> ?_)
     ·obtain rfl:=so h
      exact rq hC [] [4] [(4,vB false)] [] [] (qw (cO 0 2 1 w_a0G2 g19 1 0 (List.map (rL rI) x17).length (e:= .arr 56 g19 1 (List.map (rL rI) x17)) (cs:=[vM aC x15,vI x16,ms 1 g19 1 (rL rI) x17]) rfl (by kernel_rfl) (by kernel_rfl) (by kernel_rfl) (by kernel_rfl) rfl rfl hg.2.1) (qr eW))
     ·exact qk (rk hC [] [7,50,51] [(7,vI (wr (x8+1)))] [] [] ⟨(x15,x16,x17,wr (x8+1)),g19,h,lS⟩)
   ·obtain rfl:=so h
    exact dE (rq hC [] [4] [(4,vB true)] [] [] (qw (cO 0 2 1 w_a0G2 g9 1 0 (List.map (rL rI) x7).length (e:= .arr 56 g9 1 (List.map (rL rI) x7)) (cs:=[vM aC x5,vI x6,ms 1 g9 1 (rL rI) x7]) rfl (by kernel_rfl) (by kernel_rfl) (by kernel_rfl) (by kernel_rfl) rfl rfl hg.2.1) (qr eW)))
theorem yK{nest}{r}(h:gS n nest=some r):VQ G 36 [] [vM aC nest] (V.tup [ms 0 1 1 (rL rI) r.1,vB r.2]) [ar 56 1 1 (rL rI) r.1]:=by
 unfold gS at h
 refine vq aQ Tryz.func36 rfl fun w X β0 hC hg=> ?_
 refine rq hC [] [2,3] [] [] [] (qs ?_)
 obtain⟨x1,hx1,h⟩:=bd h
 refine rq hC [oV (y9 G hx1)] [5,6,7] [(7,vB (!x1))] [] [] (aS h (fun c1 h=> ?_) (fun c1 h=> ?_))
 ·obtain rfl:=so h
  exact rq hC [] [2,3] [(2,V.t T.nilS),(3,vB false)] [] [] (qw (lk hC [.grow 2 0 56] [2] [(2,ms 0 1 1 (rL rI) [])] [(0,some (ar 56 1 1 (rL rI) []))] [(0,true)]) (qr eW))
 ·refine qk (rq hC [.z (.nat 20)] [4,8,9,10] [(4,V.ref 20 0)] [(20,sc [vM aC nest,vI 0,V.t T.nilS])] [(20,true)] (qs ?_))
  obtain⟨x2,hx2,h⟩:=bd h
  refine rq hC [.z (.at 2),.z (.growc 20 2 21 56),oC [20,21] [] (tT G n (⟨nest,0,[]⟩:Walking) 1 [] hx2)] [11,12,13] [(13,vB (!x2.1))] [(21,some (ar 56 2 1 (rL rI) x2.2.out)),(20,sc [vM aC x2.2.nest,vI x2.2.steps,ms 21 2 1 (rL rI) x2.2.out])] [(21,true),(20,true),(21,true)] (aS h (fun c2 h=> ?_) (fun c2 h=> ?_))
  ·obtain rfl:=so h
   exact rq hC [] [2,3] [(2,V.t T.nilS),(3,vB false)] [] [] (qw (lk hC [.grow 2 0 56] [2] [(2,ms 0 1 1 (rL rI) [])] [(0,some (ar 56 1 1 (rL rI) []))] [(0,true)]) (qr eW))
  ·obtain rfl:=so h
   exact qk (rq hC [] [2,3,14,15,16,17] [(2,ms 21 2 1 (rL rI) x2.2.out),(3,vB true)] [] [] (qw (lk hC [.ren 2 21 0] [2] [(2,ms 0 1 1 (rL rI) x2.2.out)] [(0,some (ar 56 1 1 (rL rI) x2.2.out)),(21,none)] [(0,true)]) (qr eW)))
theorem yJ(G:GS)(n:Nat)(s:Affine)(c0__a1:Int){r:Bool}(h:fO n s c0__a1=some r):PQ G 98 [V.agg (bC s),V.tp [T.int .i64 c0__a1]] (vB r):=by
 unfold fO at h
 refine pq aQ Tryz.func98 rfl fun w X hC=> ?_
 refine rq hC [.z (.b (true))] [2,3] [(2,V.tp (bI s))] [] [] (vj h (fun x_=>bA [(3,vB x_)] [] []) (fun j1 h=> ?_) (fun x4 h=> ?_))
 ·
  obtain⟨x2,hx2,h⟩:=bd h
  refine aT h (fun c1 h=> ?_) (fun c1 h=> ?_)
  ·obtain⟨x3,hx3,h⟩:=bd h
   exact dk hC bO ([oV (cW G hx2),oF c1,oF c1,oV (fQ G hx3)]++rF 3 c1) (fr 3 10) [(3,vB (decide (c0__a1<x3)))] [] [] (lE h)
  ·exact dk hC bO ([oV (cW G hx2)]++rT 5 c1) (fr 3 10) [(3,vB true)] [] [] (lE h)
 ·obtain rfl:=so h
  exact qr eR
theorem jV{a}{depth}{r}(h:iK n a depth=some r):PQ G 65 [V.agg (dV a),vI depth] (vB r):=by
 unfold iK at h
 refine pq aQ Tryz.func65 rfl fun w X hC=> ?_
 refine rq hC [.z (.b (true)),.z (.b (true))] [2,3,4] [(2,V.tp (dU a)),(3,V.tp [T.int .i64 depth])] [] [] (vj h (fun x_=>bA [(4,vB x_)] [] []) (fun j1 h=> ?_) (fun x5 h=> ?_))
 ·
  obtain⟨x2,hx2,h⟩:=bd h
  refine aT h (fun c1 h=> ?_) (fun c1 h=> ?_)
  ·exact rk hC ([oV (dQ G hx2)]++rF 5 c1++sF 6) (fr 4 17) [(4,vB false)] [] [] (lE h)
  ·obtain⟨x3,hx3,h⟩:=bd h
   refine aT h (fun c2 h=> ?_) (fun c2 h=> ?_)
   ·exact rk hC ([oV (dQ G hx2)]++rT 3 c1++[oN aB a.subs,oT c1,oV (bH G hx3),oT c1]++rF 6 c2) (fr 4 17) [(4,vB false)] [] [] (lE h)
   ·obtain⟨x4,hx4,h⟩:=bd h
    exact rk hC ([oV (dQ G hx2)]++rT 3 c1++[oN aB a.subs,oT c1,oV (bH G hx3),oT c1]++rT 4 c2++[oV (fH G n a.subs 98 [T.int .i64 depth] (fun q0=>fO n q0 depth) (fun q0 r h=>yJ G n q0 depth h) hx4),oT c2,oT c2]) (fr 4 17) [(4,vB (!x4))] [] [] (lE h)
 ·obtain rfl:=so h
  exact qr eR
end Go.Lift
