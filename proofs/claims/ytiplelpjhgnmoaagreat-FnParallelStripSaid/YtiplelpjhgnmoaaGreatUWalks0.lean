/- The walks: the code computes what the plain functions say. -/
import Derived.Test.YtiplelpjhgnmoaaGreatUModels
import Derived.Test.YtiplelpjhgnmoaaGreatUTab
import Derived.Test.YtiplelpjhgnmoaaGreatUCells
set_option maxRecDepth 10000
set_option linter.unusedVariables false
namespace Go.Lift
open Go Go.Proofs
variable (G:GS) {n:Nat}
theorem bK{r_a0}{n_a1}{r}(h:bF n r_a0 n_a1=some r):VQ G 109 [eL r_a0] [V.ref 0 0,vI n_a1] (vI r.1) [eL r.2]:=by
 unfold bF at h
 refine vq aO Tryz.func109 rfl fun w X β0 hC hg=> ?_
 refine rq hC [] [4] [] [] [] (rq hC [] (fr 7 8) [] [(0,sc [vM rY r_a0.b,vI (wr (r_a0.p+1))])] [] (qs (vj h (fun x_=>aX [(0,V.ref 0 0),(1,vI n_a1),(24,vB x_)] [(0,E.cells [vM rY r_a0.b,vI (wr (r_a0.p+1))])] [0]) (fun j1 h=> ?_) (fun x2 h=> ?_))))
 ·
  refine aS h (fun c1 h=> ?_) (fun c1 h=> ?_)
  ·exact rk hC (rF 5 c1++[oN rY r_a0.b,oF c1,oF c1]) (fr 15 10) [(24,vB (decide ((r_a0.b.length:Int)=0)))] [] [] (lE h)
  ·exact rk hC (rT 7 c1) (fr 15 10) [(24,vB true)] [] [] (lE h)
 ·refine aT h (fun c2 h=> ?_) (fun c2 h=> ?_)
  ·obtain rfl:=so h
   exact rq hC [] [4] [(4,vI 0)] [] [] (qr eW)
  ·refine qk (rq hC [] [5,25,26,27,28,29] [(5,vI (wr ((wr (r_a0.p+1))-1)))] [] [] (qs (rq hC [oN rY r_a0.b] (fr 30 7) [(36,vB (decide (wr ((wr (r_a0.p+1))-1)<(r_a0.b.length:Int))))] [] [] (aT h (fun c3 h=> ?_) (fun c3 h=> ?_)))))
   ·obtain⟨x3,hx3,x4,hx4,h⟩:=cS h
    obtain rfl:=so h
    exact rq hC [oR rY hx3,.z (.int (x3.toNat:Int)),oQ (u8i x3),oQ (zM hx4)] [4,37,38,39,40,41,42,43,44,45,46] [(4,vI (Int.tmod (x3.toNat:Int) n_a1))] [] [] (qr eW)
   ·refine qk (qs ?_)
    obtain⟨x5,hx5,x6,hx6,x7,hx7,h⟩:=kY h
    obtain⟨x8,hx8,x9,hx9,h⟩:=cS h
    refine dk hC bD [oN rY r_a0.b,oQ (zM hx5),oR rY hx6,.z (.int (x6.toNat:Int)),oQ (u8i x6),oN rY r_a0.b,oQ (zM hx7),oR rY hx8,.z (.int (x8.toNat:Int)),oQ (u8i x8),oN rY r_a0.b,oQ (zM hx9)] [6,47,48,49,50,51,52,53,54,55,56,57,58,59,60,61,62,63,64,65,66,67,68,69,70,71,72,73,74,75,76,77,78,79,80,81,82,83,84,85,86,87,88,89,90,91] [(6,vI (wr ((wr ((wr ((wr ((x6.toNat:Int)*131))+(wr ((x8.toNat:Int)*1117))))+(wr ((wr ((wr (r_a0.p+1))-1))*29))))+(wr ((wr (Int.tdiv (wr ((wr (r_a0.p+1))-1)) (r_a0.b.length:Int)))*53)))))] [] [] (rq hC [oQ (show(64:Int)≠0 by decide)] [6,92,93,94,95] [(6,vI (bits BinOp.xor IntKind.i64 (wr ((wr ((wr ((wr ((x6.toNat:Int)*131))+(wr ((x8.toNat:Int)*1117))))+(wr ((wr ((wr (r_a0.p+1))-1))*29))))+(wr ((wr (Int.tdiv (wr ((wr (r_a0.p+1))-1)) (r_a0.b.length:Int)))*53)))) (wr (Int.tdiv (wr ((wr ((wr ((wr ((x6.toNat:Int)*131))+(wr ((x8.toNat:Int)*1117))))+(wr ((wr ((wr (r_a0.p+1))-1))*29))))+(wr ((wr (Int.tdiv (wr ((wr (r_a0.p+1))-1)) (r_a0.b.length:Int)))*53)))) 64))))] [] [] ?_)
    obtain⟨x10,hx10,h⟩:=bd h
    obtain rfl:=so h
    exact rq hC [oQ (zM hx10)] [4,96,97,98] [(4,vI (Int.tmod (bits BinOp.xor IntKind.i64 (wr ((wr ((wr ((wr ((x6.toNat:Int)*131))+(wr ((x8.toNat:Int)*1117))))+(wr ((wr ((wr (r_a0.p+1))-1))*29))))+(wr ((wr (Int.tdiv (wr ((wr (r_a0.p+1))-1)) (r_a0.b.length:Int)))*53)))) (wr (Int.tdiv (wr ((wr ((wr ((wr ((x6.toNat:Int)*131))+(wr ((x8.toNat:Int)*1117))))+(wr ((wr ((wr (r_a0.p+1))-1))*29))))+(wr ((wr (Int.tdiv (wr ((wr (r_a0.p+1))-1)) (r_a0.b.length:Int)))*53)))) 64))) n_a1))] [] [] (qr eW)
theorem aZ{r_a0}{list}{r}(h:aY n r_a0 list=some r):VQ G 80 [eL r_a0] [V.ref 0 0,vM rI list] (vI r.1) [eL r.2]:=by
 unfold aY at h
 refine vq aO Tryz.func80 rfl fun w X β0 hC hg=> ?_
 refine rq hC [] [4] [] [] [] ?_
 obtain⟨x1,hx1,x2,hx2,h⟩:=cS h
 obtain rfl:=so h
 exact rq hC [oN rI list,oC [0] [] (bK G hx1),oR rI hx2] (fr 4 8) [(4,vI x2)] [(0,sR x1.2)] [(0,true)] (qr eW)
theorem mY{r_a0}{list}{r}(h:fS n r_a0 list=some r):VQ G 110 [eL r_a0] [V.ref 0 0,vM rS list] (vS r.1) [eL r.2]:=by
 unfold fS at h
 refine vq aO Tryz.func110 rfl fun w X β0 hC hg=> ?_
 refine rq hC [] [4] [] [] [] ?_
 obtain⟨x1,hx1,x2,hx2,h⟩:=cS h
 obtain rfl:=so h
 exact rq hC [oN rS list,oC [0] [] (bK G hx1),oR rS hx2] (fr 4 8) [(4,vS x2)] [(0,sR x1.2)] [(0,true)] (qr eW)
theorem lT(G:GS)(n:Nat){r:Affine}(h:l3 n=some r):VQ G 89 [] [] (V.agg [ms 0 1 1 rI r.coefs,vI r.const]) [ar 3 1 1 rI r.coefs]:=by
 unfold l3 at h
 refine vq aO Tryz.func89 rfl fun w X β0 hC hg=> ?_
 obtain rfl:=so h
 exact rq hC [.z (.nat 20)] [0] [(0,V.ref 20 0)] [(20,sc [V.t T.nilS,vI 0])] [(20,true)] (rq hC [.z (.int 1),.z (.nat 21)] [1,2] [] [(21,some (ar 3 1 1 rI [0,0,0,0])),(20,sc [ms 21 1 1 rI [0,0,0,0],vI 0])] [(21,true)] (qw (lk hC [.rn 21 0 [] [20]] [] [] [(20,sc [ms 0 1 1 rI [0,0,0,0],vI 0]),(21,none),(0,some (ar 3 1 1 rI [0,0,0,0]))] [(0,true)]) (qr eW)))
theorem cV{n_a0}{r}(h:dB n n_a0=some r):VQ G 44 [] [vI n_a0] (V.agg [ms 0 1 1 rI r.coefs,vI r.const]) [ar 3 1 1 rI r.coefs]:=by
 unfold dB at h
 refine vq aO Tryz.func44 rfl fun w X β0 hC hg=> ?_
 refine rq hC [.z (.nat 20)] [2] [(2,V.ref 20 0)] [(20,sc [V.t T.nilS,vI 0])] [(20,true)] ?_
 obtain⟨x1,hx1,h⟩:=bd h
 obtain rfl:=so h
 exact rq hC [oC [] [21] (lT G n hx1),.z (.nat 22)] [3,4] [(3,V.ref 22 0)] [(21,some (ar 3 1 1 rI x1.coefs)),(22,sc [ms 21 1 1 rI x1.coefs,vI x1.const])] [(21,true),(22,true)] (rq hC [] [5,6] [] [(22,sc [ms 21 1 1 rI x1.coefs,vI n_a0])] [] (rq hC [] [7] [] [(20,sc [ms 21 1 1 rI x1.coefs,vI n_a0])] [] (qw (lk hC [.rn 21 0 [] [20,22]] [] [] [(20,sc [ms 0 1 1 rI x1.coefs,vI n_a0]),(22,sc [ms 0 1 1 rI x1.coefs,vI n_a0]),(21,none),(0,some (ar 3 1 1 rI x1.coefs))] [(0,true)]) (qr eW))))
theorem qB{v}{r}(h:mM n v=some r):VQ G 87 [] [vI v] (V.agg [ms 0 1 1 rI r.coefs,vI r.const]) [ar 3 1 1 rI r.coefs]:=by
 unfold mM at h
 refine vq aO Tryz.func87 rfl fun w X β0 hC hg=> ?_
 refine rq hC [.z (.nat 20)] [2] [(2,V.ref 20 0)] [(20,sc [V.t T.nilS,vI 0])] [(20,true)] ?_
 obtain⟨x1,hx1,h⟩:=bd h
 refine rq hC [oC [] [21] (lT G n hx1),.z (.nat 22)] [3,4] [(3,V.ref 22 0)] [(21,some (ar 3 1 1 rI x1.coefs)),(22,sc [ms 21 1 1 rI x1.coefs,vI x1.const])] [(21,true),(22,true)] ?_
 obtain⟨x2,hx2,x3,hx3,h⟩:=cS h
 obtain rfl:=so h
 exact rq hC [oQ (iX rI hx2),oX rI hx2,.z (.rows (List.map rI x3)),.z (.lenc 22 0 (List.map rI x3).length),oQ (str rI hx3),oQ (lI rI hx3)] (fr 5 4) [] [(21,some (ar 3 1 1 rI x3)),(22,sc [ms 21 1 1 rI x3,vI x1.const])] [] (rq hC [] [9] [] [(20,sc [ms 21 1 1 rI x3,vI x1.const])] [] (qw (lk hC [.rn 21 0 [] [20,22]] [] [] [(20,sc [ms 0 1 1 rI x3,vI x1.const]),(22,sc [ms 0 1 1 rI x3,vI x1.const]),(21,none),(0,some (ar 3 1 1 rI x3))] [(0,true)]) (qr eW)))
theorem Q3{nest}{r}(h:nN n nest=some r):VQ G 135 [] [vM aC nest] (ms 0 1 2 aC r) [E.tree mJ 0 1 (List.map aC r) []]:=by
 unfold nN at h
 refine vq aO Tryz.func135 rfl fun w X β0 hC hg=> ?_
 refine rq hC [] [2] [] [] [] (rq hC [.z (.nat 20),.z (.at 1),.z (.tre 20 mJ 0)] [3,10] [(3,ms 20 1 2 aC [])] [(20,some (E.tree mJ 0 1 (List.map aC []) []))] [(20,true)] (qs (rq hC [] [4] [(4,vI 0)] [] [] (qb (bA (γ:=Nat) h (fun x_ g_=>aX [(0,vM aC nest),(3,ms 20 g_ 2 aC x_.1),(4,vI x_.2)] [(20,E.tree mJ 0 g_ (List.map aC x_.1) [])] [20]) 1 (lS) ?_)))))
 rintro again4 ⟨x1,x2⟩ g3 h
 refine qs (rq hC [oN aC nest] (fr 11 4) [(14,vB (decide (x2<(nest.length:Int))))] [] [] (aT h (fun c1 h=> ?_) (fun c1 h=> ?_)))
 ·refine qk (qs (qb (rq hC [.z (.nat 21)] [5,17] [(5,V.ref 21 0)] [(21,sc [V.t T.nilS,V.t T.nilS])] [(21,true)] (qs (rq hC [] [6] [(6,vI 0)] [] [] ?_)))))
  refine qb (qw (lk hC [.growc 21 0 22 65] [] [] [(22,some (ar 65 1 2 aB [])),(21,sc [ms 22 1 2 aB [],V.t T.nilS])] [(22,true)]) (bA (γ:=Nat) h (fun x_ g_=>aX [(0,vM aC nest),(3,ms 20 g3 2 aC x1),(4,vI x2),(5,V.ref 21 0),(6,vI x_.2)] [(20,E.tree mJ 0 g3 (List.map aC x1) []),(21,E.cells [ms 22 g_ 2 aB x_.1,V.t T.nilS]),(22,ar 65 g_ 2 aB x_.1)] [20,21,22]) 1 (lS) ?_))
  rintro again8 ⟨x5,x6⟩ g7 h
  refine qs ?_
  obtain⟨x9,hx9,h⟩:=bd h
  refine rq hC [oR aC hx9,oN aB x9.lo] (fr 18 8) [(25,vB (decide (x6<(x9.lo.length:Int))))] [] [] (aT h (fun c2 h=> ?_) (fun c2 h=> ?_))
  ·refine qk (qs (qb ?_))
   obtain⟨x10,hx10,h⟩:=bd h
   refine rq hC [oR aC hx9,oR aB hx10,.z (.nat 23)] [7,28,29,30,31,32,33,34,35] [(7,V.ref 23 0)] [(23,some (E.cells (aQ x10)))] [(23,true)] ?_
   obtain⟨x11,hx11,x12,hx12,h⟩:=cS h
   exact dk hC bD [.z (.nat 24),oA (aP rI hx11),.z (.at 5),.z (.fz 24 [41] []),.z (.int 0),oQ (bZ (r:=rI) 1 (fun _=>rfl) []),oQ (bZ (r:=rI) 1 (fun _=>rfl) x10.coefs),oA (aP aB hx12),oQ (bZ (r:=aB) 2 bC x5),oQ (bZ (r:=aB) 2 bC [(⟨x11,x10.const⟩:Affine)])] (fr 36 12) [] [(24,none),(22,some (ar 65 (g7+1) 2 aB x12)),(21,sc [ms 22 (g7+1) 2 aB x12,V.t T.nilS])] [(24,true)] (rk hC [] [6,26,27] [(6,vI (wr (x6+1)))] [] [] ⟨(x12,wr (x6+1)),(g7+1),h,lS⟩)
  ·refine cM (qs (rq hC [] [8] [(8,vI 0)] [] [] (qb (qw (lk hC [.growc 21 1 23 65] [] [] [(23,some (ar 65 1 2 aB [])),(21,sc [ms 22 g7 2 aB x5,ms 23 1 2 aB []])] [(23,true)]) (bA (γ:=Nat) h (fun x_ g_=>aX [(0,vM aC nest),(3,ms 20 g3 2 aC x1),(4,vI x2),(5,V.ref 21 0),(8,vI x_.2)] [(20,E.tree mJ 0 g3 (List.map aC x1) []),(21,E.cells [ms 22 g7 2 aB x5,ms 23 g_ 2 aB x_.1]),(22,ar 65 g7 2 aB x5),(23,ar 65 g_ 2 aB x_.1)] [20,21,22,23]) 1 (lS) ?_)))))
   rintro again16 ⟨x13,x14⟩ g15 h
   refine qs (rq hC [oR aC hx9,oN aB x9.hi] (fr 48 8) [(55,vB (decide (x14<(x9.hi.length:Int))))] [] [] (aT h (fun c3 h=> ?_) (fun c3 h=> ?_)))
   ·refine qk (qs (qb ?_))
    obtain⟨x17,hx17,h⟩:=bd h
    refine rq hC [oR aC hx9,oR aB hx17,.z (.nat 24)] [9,58,59,60,61,62,63,64,65] [(9,V.ref 24 0)] [(24,some (E.cells (aQ x17)))] [(24,true)] ?_
    obtain⟨x18,hx18,x19,hx19,h⟩:=cS h
    exact dk hC bD [.z (.nat 25),oA (aP rI hx18),.z (.at 5),.z (.fz 25 [71] []),.z (.int 0),oQ (bZ (r:=rI) 1 (fun _=>rfl) []),oQ (bZ (r:=rI) 1 (fun _=>rfl) x17.coefs),oA (aP aB hx19),oQ (bZ (r:=aB) 2 bC x13),oQ (bZ (r:=aB) 2 bC [(⟨x18,x17.const⟩:Affine)])] (fr 66 12) [] [(25,none),(23,some (ar 65 (g15+1) 2 aB x19)),(21,sc [ms 22 g7 2 aB x5,ms 23 (g15+1) 2 aB x19])] [(25,true)] (rk hC [] [8,56,57] [(8,vI (wr (x14+1)))] [] [] ⟨(x19,wr (x14+1)),(g15+1),h,lS⟩)
   ·refine cM ?_
    obtain⟨x20,hx20,h⟩:=bd h
    exact rk hC [.z (.lt 24 mJ 0),.z (.rows (List.map aC (x1++[(⟨[],[]⟩:Loop)]))),.z (.at 1),.z (.tre 22 mJ 1),.z (.unf 20 22 (aC (⟨[],[]⟩:Loop)) (List.map aC (x1++[(⟨x5,[]⟩:Loop)]))),.z (.tre 23 mJ 1),.z (.unf 20 23 (aC (⟨x5,[]⟩:Loop)) (List.map aC x20)),.z (.len 81 (List.map aC x20).length),oQ (Eq.refl (ndOf mJ 0)),oQ (aIc aC (⟨[],[]⟩:Loop) hx20),oQ (bZ (r:=aC) 2 dO x1),oQ (bZ (r:=aC) 2 dO [(⟨[],[]⟩:Loop)]),oQ (Eq.refl (List.map aB x5).length),oQ (Eq.refl mJ),oQ (aAs aC x1 (⟨[],[]⟩:Loop)),oQ (aGM aC x1 (ph:=(⟨[],[]⟩:Loop)) (y:=(⟨x5,[]⟩:Loop)) rfl),oQ (Eq.refl (List.map aB x13).length),oQ (Eq.refl mJ),oQ (aAs aC x1 (⟨x5,[]⟩:Loop)),oQ (aBB aC (ph:=(⟨x5,[]⟩:Loop)) hx20 rfl),oQ (aG6 aC (⟨[],[]⟩:Loop) hx20)] [3,78,79,80,81] [(3,ms 20 (g3+1) 2 aC x20)] [(24,some (E.tree mJ 0 1 (List.map aC [(⟨[],[]⟩:Loop)]) [(0,0,ms 22 g7 2 aB x5),(0,1,ms 23 g15 2 aB x13)])),(20,some (E.tree mJ 0 (g3+1) (List.map aC x20) [])),(22,none),(23,none)] [(24,true)] (rk hC [] [4,15,16] [(4,vI (wr (x2+1)))] [] [] ⟨(x20,wr (x2+1)),(g3+1),h,lS⟩)
 ·obtain rfl:=so h
  exact cM (rq hC [] [2,82] [(2,ms 20 g3 2 aC x1)] [] [] (qw (lk hC [.rn 20 0 [2,3] []] [2,3] [(2,ms 0 1 2 aC x1),(3,ms 0 1 2 aC x1)] [(20,none),(0,some (E.tree mJ 0 1 (List.map aC x1) []))] [(0,true)]) (qr eW)))
theorem rH{r_a0}{nest}{r}(h:jK n r_a0 nest=some r):VQ G 111 [eL r_a0] [V.ref 0 0,vM aC nest] (ms 1 1 2 aC r.1) [eL r.2,ar 58 1 2 aC r.1]:=by
 unfold jK at h
 refine vq aO Tryz.func111 rfl fun w X β0 hC hg=> ?_
 refine rq hC [] [4] [] [] [] ?_
 obtain⟨x1,hx1,h⟩:=bd h
 refine rq hC [oC [] [20] (Q3 G hx1)] [5,7,8] [(5,ms 20 1 2 aC x1)] [(20,some (E.tree mJ 0 1 (List.map aC x1) []))] [(20,true)] (rq hC [oN aC x1] [6,9,10] [(6,vI (x1.length:Int))] [] [] (qs (rq hC [] [11,12] [(12,vB (decide ((x1.length:Int)=0)))] [] [] (aT h (fun c1 h=> ?_) (fun c1 h=> ?_)))))
 ·obtain rfl:=so h
  exact rq hC [] [4,13] [(4,ms 20 1 2 aC x1)] [] [] (qw (lk hC [.shd 20,.ren 4 20 1] [4] [(4,ms 1 1 2 aC x1)] [(20,none),(1,some (ar 58 1 2 aC x1))] [(1,true)]) (qr eW))
 ·refine qk ?_
  obtain⟨j2,hj2,h⟩:=uW h
  refine gN (γ:=Nat) (j:=j2) (r:=r) (fun x_ g_=>aX [(5,ms 20 g_ 2 aC x_.2.2)] [(0,E.cells [vM rY x_.1,vI x_.2.1]),(20,ar 58 g_ 2 aC x_.2.2)] [0,20]) ?_ ?_
  ·
   obtain⟨x3,hx3,h⟩:=bd h
   refine rq hC [oC [0] [] (bK G hx3)] [14,15] [(15,vI x3.1)] [(0,sR x3.2)] [(0,true)] (qb (rq hC [] [16,17] [(16,vB (decide (x3.1=0)))] [] [] (aT h (fun c2 h=> ?_) (fun c2 h=> ?_))))
   ·obtain⟨x4,hx4,h⟩:=bd h
    refine qw (zQ hC [.foc 20 21 (0+Int.toNat 0) 0 (aC x4),.shd 21] [] [] [(20,some (E.tree mJ 0 1 (List.map aC x1) [((0+Int.toNat 0),0,ms 21 1 2 aB x4.lo)])),(21,some (ar 65 1 2 aB x4.lo))] [(21,true)] (a1 (o0 aC hx4)) (by kernel_rfl)) ?_
    obtain⟨x5,hx5,x6,hx6,x7,hx7,h⟩:=kY h
    refine dk hC bD [oQ (iX aC hx4),oX aC hx4,oC [0] [] (bK G hx5),oC [] [22] (qB G hx6),.z (.at 5),.z (.fz 22 [25] []),.z (.int 0),oA (aP aB hx7),oQ (bZ (r:=aB) 2 bC x4.lo),oQ (bZ (r:=aB) 2 bC [x6]),oQ (iX aC hx4),oX aC hx4] (fr 18 12) [] [(0,sR x5.2),(22,none),(21,some (ar 65 2 2 aB x7)),(20,some (E.tree mJ 0 1 (List.map aC x1) [((0+Int.toNat 0),0,ms 21 2 2 aB x7)]))] [(0,true),(22,true)] ?_
    obtain⟨x8,hx8,h⟩:=bd h
    exact⟨(x5.2.b,x5.2.p,x8),1,h,((zQ hC [.tre 21 mJ 1,.unf 20 21 (aC x4) (List.map aC x8),.len 5 (List.map aC x8).length] [5] [(5,ms 20 1 2 aC x8)] [(21,none),(20,some (E.tree mJ 0 1 (List.map aC x8) []))] [] (a5 (Eq.refl (List.map aB x7).length) (Eq.refl mJ) (o0 aC hx4) (S4 aC hx8 rfl) (lI aC hx8)) (by kernel_rfl)).trans ((lk hC [.shd 20] [] [] [(20,some (ar 58 1 2 aC x8))] []).trans (lS)))⟩
   ·refine rq hC [] [30,31] [(30,vB (decide (x3.1=1)))] [] [] (aT h (fun c3 h=> ?_) (fun c3 h=> ?_))
    ·refine qw (lk hC [.shd 20] [] [] [(20,some (ar 58 1 2 aC x1))] []) ?_
     obtain⟨x9,hx9,x10,hx10,h⟩:=cS h
     exact rk hC [oQ (iX aC hx9),oX aC hx9,.z (.rows (List.map aC x10)),.z (.len 5 (List.map aC x10).length),oQ (str aC hx10),oQ (lI aC hx10)] [5,32,33,34,35,36] [(5,ms 20 1 2 aC x10)] [(20,some (ar 58 1 2 aC x10))] [] ⟨(x3.2.b,x3.2.p,x10),1,h,lS⟩
    ·refine rq hC [] [37,38] [(37,vB (decide (x3.1=2)))] [] [] (aT h (fun c4 h=> ?_) (fun c4 h=> ?_))
     ·obtain⟨x11,hx11,h⟩:=bd h
      refine qw (zQ hC [.foc 20 21 (0+Int.toNat (wr ((x1.length:Int)-1))) 1 (aC x11),.shd 21] [] [] [(20,some (E.tree mJ 0 1 (List.map aC x1) [((0+Int.toNat (wr ((x1.length:Int)-1))),1,ms 21 1 2 aB x11.hi)])),(21,some (ar 65 1 2 aB x11.hi))] [(21,true)] (a1 (o0 aC hx11)) (by kernel_rfl)) ?_
      obtain⟨x12,hx12,x13,hx13,x14,hx14,h⟩:=kY h
      refine dk hC bD [oQ (iX aC hx11),oX aC hx11,oC [] [22] (cV G hx12),oC [] [23] (cV G hx13),.z (.at 5),.z (.fz 22 [48] []),.z (.at 5),.z (.fz 23 [49] []),.z (.int 0),oA (aP aB hx14),oQ (bZ (r:=aB) 2 bC x11.hi),oQ (bZ (r:=aB) 2 bC [x12,x13]),oQ (iX aC hx11),oX aC hx11] (fr 39 15) [] [(22,none),(23,none),(21,some (ar 65 2 2 aB x14)),(20,some (E.tree mJ 0 1 (List.map aC x1) [((0+Int.toNat (wr ((x1.length:Int)-1))),1,ms 21 2 2 aB x14)]))] [(22,true),(23,true)] ?_
      obtain⟨x15,hx15,h⟩:=bd h
      exact⟨(x3.2.b,x3.2.p,x15),1,h,((zQ hC [.tre 21 mJ 1,.unf 20 21 (aC x11) (List.map aC x15),.len 5 (List.map aC x15).length] [5] [(5,ms 20 1 2 aC x15)] [(21,none),(20,some (E.tree mJ 0 1 (List.map aC x15) []))] [] (a5 (Eq.refl (List.map aB x14).length) (Eq.refl mJ) (o0 aC hx11) (S4 aC hx15 rfl) (lI aC hx15)) (by kernel_rfl)).trans ((lk hC [.shd 20] [] [] [(20,some (ar 58 1 2 aC x15))] []).trans (lS)))⟩
     ·refine rq hC [] [54,55] [(54,vB (decide (x3.1=3)))] [] [] (aT h (fun c5 h=> ?_) (fun c5 h=> ?_))
      ·refine qw (lk hC [.shd 20] [] [] [(20,some (ar 58 1 2 aC x1))] []) ?_
       obtain⟨x16,hx16,x17,hx17,x18,hx18,h⟩:=kY h
       exact rk hC [oC [] [21] (cV G hx16),.z (.at 4),.z (.fz 21 [57] []),.z (.int 1),.z (.nat 22),.z (.at 1),.z (.fz 22 [58] []),oQ (iX aC hx17),oX aC hx17,.z (.rows (List.map aC x18)),.z (.len 5 (List.map aC x18).length),oQ (str aC hx18),oQ (lI aC hx18)] [5,56,57,58,59,60] [(5,ms 20 1 2 aC x18)] [(21,none),(22,none),(20,some (ar 58 1 2 aC x18))] [(21,true),(22,true)] ⟨(x3.2.b,x3.2.p,x18),1,h,lS⟩
      ·refine rq hC [] [61,62] [(61,vB (decide (x3.1=4)))] [] [] (aT h (fun c6 h=> ?_) (fun c6 h=> ?_))
       ·refine qb (qw (lk hC [.shd 20] [] [] [(20,some (ar 58 1 2 aC x1))] []) (bA (γ:=Nat) h (fun x_ g_=>aX [(5,ms 20 g_ 2 aC x_)] [(0,eL x3.2),(20,ar 58 g_ 2 aC x_)] [0,20]) 1 (lS) ?_))
        rintro again21 x19 g20 h
        refine qs (rq hC [oN aC x19] [63,64,65] [(65,vB (decide ((x19.length:Int)≤4)))] [] [] (aT h (fun c7 h=> ?_) (fun c7 h=> ?_)))
        ·refine qk (qb ?_)
         obtain⟨x22,hx22,x23,hx23,h⟩:=cS h
         exact rk hC [oQ (iX aC hx22),oX aC hx22,.z (.int 0),oA (aP aC hx23),oQ (bZ (r:=aC) 2 dO x19),oQ (bZ (r:=aC) 2 dO [x22])] [5,66,67,68,69,70,71] [(5,ms 20 (g20+1) 2 aC x23)] [(20,some (ar 58 (g20+1) 2 aC x23))] [] ⟨x23,(g20+1),h,lS⟩
        ·exact cM ⟨(x3.2.b,x3.2.p,x19),g20,h,lS⟩
       ·exact qk ⟨(x3.2.b,x3.2.p,x1),1,h,((lk hC [.shd 20] [] [] [(20,some (ar 58 1 2 aC x1))] []).trans (lS))⟩
  ·rintro⟨x24,x25,x26⟩ g27 h
   subst hj2
   obtain rfl:=so h
   exact rq hC [] [4,72] [(4,ms 20 g27 2 aC x26)] [] [] (qw (lk hC [.ren 4 20 1] [4] [(4,ms 1 1 2 aC x26)] [(1,some (ar 58 1 2 aC x26)),(20,none)] [(1,true)]) (qr eW))
theorem qA{a}{r}(h:fA n a=some r):VQ G 234 [] [V.agg (aQ a)] (V.agg [ms 0 1 1 rI r.coefs,vI r.const]) [ar 3 1 1 rI r.coefs]:=by
 unfold fA at h
 refine vq aO Tryz.func234 rfl fun w X β0 hC hg=> ?_
 refine rq hC [.z (.b (true)),.z (.nat 20)] [1,2] [(1,V.tp (bJ a)),(2,V.ref 20 0)] [(20,sc [V.t T.nilS,vI 0])] [(20,true)] (qs (rq hC [oN rI a.coefs] (fr 3 4) [(6,vB (decide ((a.coefs.length:Int)=0)))] [] [] (aT h (fun c1 h=> ?_) (fun c1 h=> ?_))))
 ·obtain rfl:=so h
  exact rq hC [] [7,8,9] [] [(20,sc [V.t T.nilS,vI a.const])] [] (qw (lk hC [.growc 20 0 21 3] [] [] [(21,some (ar 3 1 1 rI [])),(20,sc [ms 21 1 1 rI [],vI a.const])] [(21,true)]) (qw (lk hC [.rn 21 0 [] [20]] [] [] [(20,sc [ms 0 1 1 rI [],vI a.const]),(21,none),(0,some (ar 3 1 1 rI []))] [(0,true)]) (qr eW)))
 ·refine qk (qs ?_)
  obtain⟨x1,hx1,h⟩:=bd h
  obtain rfl:=so h
  exact dk hC bD [.z (.nat 21),oA (aP rI hx1),oQ (bZ (r:=rI) 1 (fun _=>rfl) []),oQ (bZ (r:=rI) 1 (fun _=>rfl) a.coefs)] (fr 10 7) [] [(21,some (ar 3 2 1 rI x1)),(20,sc [ms 21 2 1 rI x1,vI a.const])] [(21,true)] (qw (lk hC [.rn 21 0 [] [20]] [] [] [(20,sc [ms 0 1 1 rI x1,vI a.const]),(21,none),(0,some (ar 3 1 1 rI x1))] [(0,true)]) (qr eW))
theorem lQ{a}{r}(h:d8 n a=some r):VQ G 179 [] [V.agg (dH a)] (V.agg [vS r.array,ms 0 1 2 aB r.subs]) [ar 65 1 2 aB r.subs]:=by
 unfold d8 at h
 refine vq aO Tryz.func179 rfl fun w X β0 hC hg=> ?_
 refine rq hC [.z (.b (true)),.z (.nat 20)] [1,2] [(1,V.tp (eG a)),(2,V.ref 20 0)] [(20,sc [vS [],V.t T.nilS])] [(20,true)] (rq hC [.z (.nat 21)] [3,5,6,7] [(3,V.ref 21 0)] [(21,sc [vS a.array,V.t T.nilS])] [(21,true)] (qs (rq hC [] [4] [(4,vI 0)] [] [] (qb (qw (lk hC [.growc 21 1 22 65] [] [] [(22,some (ar 65 1 2 aB [])),(21,sc [vS a.array,ms 22 1 2 aB []])] [(22,true)]) ?_)))))
 refine bA (γ:=Nat) h (fun x_ g_=>aX [(1,V.tp (eG a)),(2,V.ref 20 0),(3,V.ref 21 0),(4,vI x_.2)] [(20,E.cells [vS [],V.t T.nilS]),(21,E.cells [vS a.array,ms 22 g_ 2 aB x_.1]),(22,ar 65 g_ 2 aB x_.1)] [20,21,22]) 1 (lS) ?_
 rintro again4 ⟨x1,x2⟩ g3 h
 refine qs (rq hC [oN aB a.subs] (fr 8 5) [(12,vB (decide (x2<(a.subs.length:Int))))] [] [] (aT h (fun c1 h=> ?_) (fun c1 h=> ?_)))
 ·refine qk (qs (qb ?_))
  obtain⟨x5,hx5,x6,hx6,x7,hx7,h⟩:=kY h
  exact dk hC bD [oR aB hx5,oC [] [23] (qA G hx6),.z (.at 4),.z (.fz 23 [22] []),.z (.int 0),oA (aP aB hx7),oQ (bZ (r:=aB) 2 bC x1),oQ (bZ (r:=aB) 2 bC [x6])] (fr 15 11) [] [(23,none),(22,some (ar 65 (g3+1) 2 aB x7)),(21,sc [vS a.array,ms 22 (g3+1) 2 aB x7])] [(23,true)] (rk hC [] [4,13,14] [(4,vI (wr (x2+1)))] [] [] ⟨(x7,wr (x2+1)),(g3+1),h,lS⟩)
 ·obtain rfl:=so h
  exact cM (rq hC [] [26] [] [(20,sc [vS a.array,ms 22 g3 2 aB x1])] [] (qw (lk hC [.rn 22 0 [] [20,21]] [] [] [(20,sc [vS a.array,ms 0 1 2 aB x1]),(21,sc [vS a.array,ms 0 1 2 aB x1]),(22,none),(0,some (ar 65 1 2 aB x1))] [(0,true)]) (qr eW)))
theorem Q0(G:GS): ∀(n:Nat) (e:Expr) {r:Expr} (h:s_l3CopyExpr n e=some r),VQ G 180 [] [V.agg (fM e)] (V.agg [vI r.kind,vI r.num,ms 0 1 1 rI r.index.coefs,vI r.index.const,vS r.read.array,ms 1 1 2 aB r.read.subs,ms 2 1 7 aM r.kids]) [ar 3 1 1 rI r.index.coefs,ar 65 1 2 aB r.read.subs,ar 85 1 7 aM r.kids]:=by
 intro n
 induction n with
 |zero=>intro e r h;rw [s_l3CopyExpr.eq_def] at h;cases h
 |succ n ih=>
  intro e r h
  rw [s_l3CopyExpr.eq_def] at h;dsimp only at h
  refine vq aO Tryz.func180 rfl fun w X β0 hC hg=> ?_
  refine rq hC [.z (.b (true)),.z (.nat 20)] [1,2] [(1,V.tp (iK e)),(2,V.ref 20 0)] [(20,sc [vI 0,vI 0,V.t T.nilS,vI 0,vS [],V.t T.nilS,V.t T.nilS])] [(20,true)] (qs ?_)
  obtain⟨x1,hx1,x2,hx2,h⟩:=cS h
  refine dk hC bD [oC [] [21] (qA G hx1),oC [] [22] (lQ G hx2),.z (.nat 23)] [3,5,6,7,8,9,10,11,12,13,14,15] [(3,V.ref 23 0)] [(21,some (ar 3 1 1 rI x1.coefs)),(22,some (ar 65 1 2 aB x2.subs)),(23,sc [vI e.kind,vI e.num,ms 21 1 1 rI x1.coefs,vI x1.const,vS x2.array,ms 22 1 2 aB x2.subs,V.t T.nilS])] [(21,true),(22,true),(23,true)] (qs (rq hC [] [4] [(4,vI 0)] [] [] (qb (qw (lk hC [.growc 23 6 24 85] [] [] [(24,some (ar 85 1 7 aM [])),(23,sc [vI e.kind,vI e.num,ms 21 1 1 rI x1.coefs,vI x1.const,vS x2.array,ms 22 1 2 aB x2.subs,ms 24 1 7 aM []])] [(24,true)]) (bA (γ:=Nat) h (fun x_ g_=>aX [(1,V.tp (iK e)),(2,V.ref 20 0),(3,V.ref 23 0),(4,vI x_.2)] [(20,E.cells [vI 0,vI 0,V.t T.nilS,vI 0,vS [],V.t T.nilS,V.t T.nilS]),(21,ar 3 1 1 rI x1.coefs),(22,ar 65 1 2 aB x2.subs),(23,E.cells [vI e.kind,vI e.num,ms 21 1 1 rI x1.coefs,vI x1.const,vS x2.array,ms 22 1 2 aB x2.subs,ms 24 g_ 7 aM x_.1]),(24,ar 85 g_ 7 aM x_.1)] [20,21,22,23,24]) 1 (lS) ?_)))))
  rintro again6 ⟨x3,x4⟩ g5 h
  refine qs (rq hC [oN aM e.kids] (fr 16 5) [(20,vB (decide (x4<(e.kids.length:Int))))] [] [] (aT h (fun c1 h=> ?_) (fun c1 h=> ?_)))
  ·refine qk (qs (qb ?_))
   obtain⟨x7,hx7,x8,hx8,x9,hx9,h⟩:=kY h
   exact dk hC bD [.z (.row (fU x7)),oQ (jG aM hx7 (eA x7)),oC [] [25,26,27] (ih x7 hx8),.z (.at 4),.z (.fz 25 [30] []),.z (.at 4),.z (.fz 26 [30] []),.z (.at 4),.z (.fz 27 [30] []),.z (.int 2),.z (.rows (List.map aM [x8])),oQ (yB x8),oA (aP aM hx9),oQ (bZ (r:=aM) 7 gG x3),oQ (bZ (r:=aM) 7 gG [x8])] (fr 23 11) [] [(25,none),(26,none),(27,none),(24,some (ar 85 (g5+1) 7 aM x9)),(23,sc [vI e.kind,vI e.num,ms 21 1 1 rI x1.coefs,vI x1.const,vS x2.array,ms 22 1 2 aB x2.subs,ms 24 (g5+1) 7 aM x9])] [(25,true),(26,true),(27,true)] (rk hC [] [4,21,22] [(4,vI (wr (x4+1)))] [] [] ⟨(x9,wr (x4+1)),(g5+1),h,lS⟩)
  ·obtain rfl:=so h
   exact cM (rq hC [] [34] [] [(20,sc [vI e.kind,vI e.num,ms 21 1 1 rI x1.coefs,vI x1.const,vS x2.array,ms 22 1 2 aB x2.subs,ms 24 g5 7 aM x3])] [] (qw (lk hC [.rn 21 0 [] [20,23]] [] [] [(20,sc [vI e.kind,vI e.num,ms 0 1 1 rI x1.coefs,vI x1.const,vS x2.array,ms 22 1 2 aB x2.subs,ms 24 g5 7 aM x3]),(23,sc [vI e.kind,vI e.num,ms 0 1 1 rI x1.coefs,vI x1.const,vS x2.array,ms 22 1 2 aB x2.subs,ms 24 g5 7 aM x3]),(21,none),(0,some (ar 3 1 1 rI x1.coefs))] [(0,true)]) (qw (lk hC [.rn 22 1 [] [20,23]] [] [] [(20,sc [vI e.kind,vI e.num,ms 0 1 1 rI x1.coefs,vI x1.const,vS x2.array,ms 1 1 2 aB x2.subs,ms 24 g5 7 aM x3]),(23,sc [vI e.kind,vI e.num,ms 0 1 1 rI x1.coefs,vI x1.const,vS x2.array,ms 1 1 2 aB x2.subs,ms 24 g5 7 aM x3]),(22,none),(1,some (ar 65 1 2 aB x2.subs))] [(1,true)]) (qw (lk hC [.rn 24 2 [] [20,23]] [] [] [(20,sc [vI e.kind,vI e.num,ms 0 1 1 rI x1.coefs,vI x1.const,vS x2.array,ms 1 1 2 aB x2.subs,ms 2 1 7 aM x3]),(23,sc [vI e.kind,vI e.num,ms 0 1 1 rI x1.coefs,vI x1.const,vS x2.array,ms 1 1 2 aB x2.subs,ms 2 1 7 aM x3]),(24,none),(2,some (ar 85 1 7 aM x3))] [(2,true)]) (qr eW)))))
theorem Q1{s}{r}(h:lZ n s=some r):VQ G 136 [] [V.agg (d4 s)] (V.agg [vS r.write.array,ms 0 1 2 aB r.write.subs,vI r.value.kind,vI r.value.num,ms 1 1 1 rI r.value.index.coefs,vI r.value.index.const,vS r.value.read.array,ms 2 1 2 aB r.value.read.subs,ms 3 1 7 aM r.value.kids]) [ar 65 1 2 aB r.write.subs,ar 3 1 1 rI r.value.index.coefs,ar 65 1 2 aB r.value.read.subs,ar 85 1 7 aM r.value.kids]:=by
 unfold lZ at h
 refine vq aO Tryz.func136 rfl fun w X β0 hC hg=> ?_
 refine rq hC [.z (.b (true)),.z (.nat 20)] [1,2] [(1,V.tp (pB s)),(2,V.ref 20 0)] [(20,sc [vS [],V.t T.nilS,vI 0,vI 0,V.t T.nilS,vI 0,vS [],V.t T.nilS,V.t T.nilS])] [(20,true)] (qs ?_)
 obtain⟨x1,hx1,x2,hx2,h⟩:=cS h
 obtain rfl:=so h
 exact dk hC bD [oC [] [21] (lQ G hx1),oC [] [22,23,24] (Q0 G n s.value hx2)] (fr 3 7) [] [(21,some (ar 65 1 2 aB x1.subs)),(22,some (ar 3 1 1 rI x2.index.coefs)),(23,some (ar 65 1 2 aB x2.read.subs)),(24,some (ar 85 1 7 aM x2.kids)),(20,sc [vS x1.array,ms 21 1 2 aB x1.subs,vI x2.kind,vI x2.num,ms 22 1 1 rI x2.index.coefs,vI x2.index.const,vS x2.read.array,ms 23 1 2 aB x2.read.subs,ms 24 1 7 aM x2.kids])] [(21,true),(22,true),(23,true),(24,true)] (qw (lk hC [.rn 21 0 [] [20]] [] [] [(20,sc [vS x1.array,ms 0 1 2 aB x1.subs,vI x2.kind,vI x2.num,ms 22 1 1 rI x2.index.coefs,vI x2.index.const,vS x2.read.array,ms 23 1 2 aB x2.read.subs,ms 24 1 7 aM x2.kids]),(21,none),(0,some (ar 65 1 2 aB x1.subs))] [(0,true)]) (qw (lk hC [.rn 22 1 [] [20]] [] [] [(20,sc [vS x1.array,ms 0 1 2 aB x1.subs,vI x2.kind,vI x2.num,ms 1 1 1 rI x2.index.coefs,vI x2.index.const,vS x2.read.array,ms 23 1 2 aB x2.read.subs,ms 24 1 7 aM x2.kids]),(22,none),(1,some (ar 3 1 1 rI x2.index.coefs))] [(1,true)]) (qw (lk hC [.rn 23 2 [] [20]] [] [] [(20,sc [vS x1.array,ms 0 1 2 aB x1.subs,vI x2.kind,vI x2.num,ms 1 1 1 rI x2.index.coefs,vI x2.index.const,vS x2.read.array,ms 2 1 2 aB x2.read.subs,ms 24 1 7 aM x2.kids]),(23,none),(2,some (ar 65 1 2 aB x2.read.subs))] [(2,true)]) (qw (lk hC [.rn 24 3 [] [20]] [] [] [(20,sc [vS x1.array,ms 0 1 2 aB x1.subs,vI x2.kind,vI x2.num,ms 1 1 1 rI x2.index.coefs,vI x2.index.const,vS x2.read.array,ms 2 1 2 aB x2.read.subs,ms 3 1 7 aM x2.kids]),(24,none),(3,some (ar 85 1 7 aM x2.kids))] [(3,true)]) (qr eW)))))
theorem rE{r_a0}{s}{r}(h:jJ n r_a0 s=some r):VQ G 112 [eL r_a0] [V.ref 0 0,V.agg (d4 s)] (V.agg (d4 r.1)) [eL r.2]:=by
 unfold jJ at h
 refine vq aO Tryz.func112 rfl fun w X β0 hC hg=> ?_
 refine rq hC [.z (.b (true)),.z (.nat 20)] [3,4] [(3,V.tp (pB s)),(4,V.ref 20 0)] [(20,sc [vS [],V.t T.nilS,vI 0,vI 0,V.t T.nilS,vI 0,vS [],V.t T.nilS,V.t T.nilS])] [(20,true)] ?_
 obtain⟨x1,hx1,h⟩:=bd h
 refine rq hC [oC [] [21,22,23,24] (Q1 G hx1),.z (.nat 25)] [5,6,7] [(5,V.ref 25 0)] [(21,some (ar 65 1 2 aB x1.write.subs)),(22,some (ar 3 1 1 rI x1.value.index.coefs)),(23,some (ar 65 1 2 aB x1.value.read.subs)),(24,some (ar 85 1 7 aM x1.value.kids)),(25,sc [vS x1.write.array,ms 21 1 2 aB x1.write.subs,vI x1.value.kind,vI x1.value.num,ms 22 1 1 rI x1.value.index.coefs,vI x1.value.index.const,vS x1.value.read.array,ms 23 1 2 aB x1.value.read.subs,ms 24 1 7 aM x1.value.kids])] [(21,true),(22,true),(23,true),(24,true),(25,true)] ?_
 obtain⟨j2,hj2,h⟩:=uW h
 refine gN (γ:=Nat×Nat) (j:=j2) (r:=r) (fun x_ g_=>aX [(4,V.ref 20 0),(5,V.ref 25 0)] [(0,E.cells [vM rY x_.1,vI x_.2.1]),(20,E.cells [vS [],V.t T.nilS,vI 0,vI 0,V.t T.nilS,vI 0,vS [],V.t T.nilS,V.t T.nilS]),(21,ar 65 g_.1 2 aB x_.2.2.1),(22,ar 3 1 1 rI x1.value.index.coefs),(23,ar 65 1 2 aB x1.value.read.subs),(24,ar 85 g_.2 7 aM x_.2.2.2.1),(25,E.cells [vS x_.2.2.2.2.1,ms 21 g_.1 2 aB x_.2.2.1,vI x_.2.2.2.2.2.1,vI x_.2.2.2.2.2.2,ms 22 1 1 rI x1.value.index.coefs,vI x1.value.index.const,vS x1.value.read.array,ms 23 1 2 aB x1.value.read.subs,ms 24 g_.2 7 aM x_.2.2.2.1])] [0,20,21,22,23,24,25]) ?_ ?_
 ·
  obtain⟨x3,hx3,h⟩:=bd h
  refine rq hC [oC [0] [] (bK G hx3)] [8,9] [(9,vI x3.1)] [(0,sR x3.2)] [(0,true)] (qb (rq hC [] [10,11] [(10,vB (decide (x3.1=0)))] [] [] (aT h (fun c1 h=> ?_) (fun c1 h=> ?_))))
  ·obtain⟨x4,hx4,h⟩:=bd h
   exact rk hC [.z (.int 0),oC [0] [] (mY G hx4)] (fr 12 5) [] [(0,sR x4.2),(25,sc [vS x4.1,ms 21 1 2 aB x1.write.subs,vI x1.value.kind,vI x1.value.num,ms 22 1 1 rI x1.value.index.coefs,vI x1.value.index.const,vS x1.value.read.array,ms 23 1 2 aB x1.value.read.subs,ms 24 1 7 aM x1.value.kids])] [(0,true)] ⟨(x4.2.b,x4.2.p,x1.write.subs,x1.value.kids,x4.1,x1.value.kind,x1.value.num),(1,1),h,lS⟩
  ·refine rq hC [] [17,18] [(17,vB (decide (x3.1=1)))] [] [] (aT h (fun c2 h=> ?_) (fun c2 h=> ?_))
   ·obtain⟨x5,hx5,x6,hx6,x7,hx7,h⟩:=kY h
    exact dk hC bD [oC [] [26] (qB G hx5),oC [] [27] (lT G n hx6),.z (.at 5),.z (.fz 26 [22] []),.z (.at 5),.z (.fz 27 [23] []),.z (.int 0),oA (aP aB hx7),oQ (bZ (r:=aB) 2 bC x1.write.subs),oQ (bZ (r:=aB) 2 bC [x5,x6])] (fr 19 9) [] [(26,none),(27,none),(21,some (ar 65 2 2 aB x7)),(25,sc [vS x1.write.array,ms 21 2 2 aB x7,vI x1.value.kind,vI x1.value.num,ms 22 1 1 rI x1.value.index.coefs,vI x1.value.index.const,vS x1.value.read.array,ms 23 1 2 aB x1.value.read.subs,ms 24 1 7 aM x1.value.kids])] [(26,true),(27,true)] ⟨(x3.2.b,x3.2.p,x7,x1.value.kids,x1.write.array,x1.value.kind,x1.value.num),(2,1),h,lS⟩
   ·refine rq hC [] [28,29] [(28,vB (decide (x3.1=2)))] [] [] (aT h (fun c3 h=> ?_) (fun c3 h=> ?_))
    ·obtain⟨x8,hx8,h⟩:=bd h
     exact rk hC [.z (.int 0),oC [0] [] (aZ G hx8)] (fr 30 5) [] [(0,sR x8.2),(25,sc [vS x1.write.array,ms 21 1 2 aB x1.write.subs,vI x8.1,vI x1.value.num,ms 22 1 1 rI x1.value.index.coefs,vI x1.value.index.const,vS x1.value.read.array,ms 23 1 2 aB x1.value.read.subs,ms 24 1 7 aM x1.value.kids])] [(0,true)] ⟨(x8.2.b,x8.2.p,x1.write.subs,x1.value.kids,x1.write.array,x8.1,x1.value.num),(1,1),h,lS⟩
    ·refine rq hC [] [35,36] [(35,vB (decide (x3.1=3)))] [] [] (aT h (fun c4 h=> ?_) (fun c4 h=> ?_))
     ·obtain⟨x9,hx9,h⟩:=bd h
      exact rk hC [.z (.int 0),oC [0] [] (aZ G hx9)] (fr 37 5) [] [(0,sR x9.2),(25,sc [vS x1.write.array,ms 21 1 2 aB x1.write.subs,vI x1.value.kind,vI x9.1,ms 22 1 1 rI x1.value.index.coefs,vI x1.value.index.const,vS x1.value.read.array,ms 23 1 2 aB x1.value.read.subs,ms 24 1 7 aM x1.value.kids])] [(0,true)] ⟨(x9.2.b,x9.2.p,x1.write.subs,x1.value.kids,x1.write.array,x1.value.kind,x9.1),(1,1),h,lS⟩
     ·refine rq hC [] [42,43] [(42,vB (decide (x3.1=4)))] [] [] (aT h (fun c5 h=> ?_) (fun c5 h=> ?_))
      ·obtain⟨x10,hx10,h⟩:=bd h
       exact rk hC [.z (.int 2),.z (.rows (List.map aM [(⟨1,0,(⟨[],0⟩:Affine),(⟨[],[]⟩:Access),[]⟩:Expr)])),oQ (yB (⟨1,0,(⟨[],0⟩:Affine),(⟨[],[]⟩:Access),[]⟩:Expr)),oA (aP aM hx10),oQ (bZ (r:=aM) 7 gG x1.value.kids),oQ (bZ (r:=aM) 7 gG [(⟨1,0,(⟨[],0⟩:Affine),(⟨[],[]⟩:Access),[]⟩:Expr)])] (fr 44 8) [] [(24,some (ar 85 2 7 aM x10)),(25,sc [vS x1.write.array,ms 21 1 2 aB x1.write.subs,vI x1.value.kind,vI x1.value.num,ms 22 1 1 rI x1.value.index.coefs,vI x1.value.index.const,vS x1.value.read.array,ms 23 1 2 aB x1.value.read.subs,ms 24 2 7 aM x10])] [] ⟨(x3.2.b,x3.2.p,x1.write.subs,x10,x1.write.array,x1.value.kind,x1.value.num),(1,2),h,lS⟩
      ·exact qk ⟨(x3.2.b,x3.2.p,x1.write.subs,x1.value.kids,x1.write.array,x1.value.kind,x1.value.num),(1,1),h,lS⟩
 ·rintro⟨x11,x12,x13,x14,x15,x16,x17⟩ ⟨g18,g19⟩ h
  subst hj2
  obtain rfl:=so h
  exact rq hC [.z (.at 2),.z (.fz 21 [] [25]),.z (.at 2),.z (.fz 22 [] [25]),.z (.at 2),.z (.fz 23 [] [25]),.z (.at 2),.z (.fz 24 [] [25])] [52] [] [(25,sc [vS x15,vM aB x13,vI x16,vI x17,vM rI x1.value.index.coefs,vI x1.value.index.const,vS x1.value.read.array,vM aB x1.value.read.subs,vM aM x14]),(21,none),(22,none),(23,none),(24,none),(20,sc [vS x15,vM aB x13,vI x16,vI x17,vM rI x1.value.index.coefs,vI x1.value.index.const,vS x1.value.read.array,vM aB x1.value.read.subs,vM aM x14])] [] (qr eW)
theorem aD8{p}{r}(h:sQ n p=some r):VQ G 85 [] [V.agg (bX p)] (V.agg [ms 0 1 2 aH r.arrays,ms 1 1 2 aD r.parts]) [ar 77 1 2 aH r.arrays,E.tree mJ 2 1 (List.map aD r.parts) []]:=by
 unfold sQ at h
 refine vq aO Tryz.func85 rfl fun w X β0 hC hg=> ?_
 refine rq hC [.z (.b (true)),.z (.nat 20)] [1,2] [(1,V.tp (bU p)),(2,V.ref 20 0)] [(20,sc [V.t T.nilS,V.t T.nilS])] [(20,true)] (rq hC [.z (.nat 21)] [3,8] [(3,V.ref 21 0)] [(21,sc [V.t T.nilS,V.t T.nilS])] [(21,true)] (qs (rq hC [] [4] [(4,vI 0)] [] [] (qb (qw (lk hC [.growc 21 0 22 77] [] [] [(22,some (ar 77 1 2 aH [])),(21,sc [ms 22 1 2 aH [],V.t T.nilS])] [(22,true)]) ?_)))))
 refine bA (γ:=Nat) h (fun x_ g_=>aX [(1,V.tp (bU p)),(2,V.ref 20 0),(3,V.ref 21 0),(4,vI x_.2)] [(20,E.cells [V.t T.nilS,V.t T.nilS]),(21,E.cells [ms 22 g_ 2 aH x_.1,V.t T.nilS]),(22,ar 77 g_ 2 aH x_.1)] [20,21,22]) 1 (lS) ?_
 rintro again4 ⟨x1,x2⟩ g3 h
 refine qs (rq hC [oN aH p.arrays] (fr 9 5) [(13,vB (decide (x2<(p.arrays.length:Int))))] [] [] (aT h (fun c1 h=> ?_) (fun c1 h=> ?_)))
 ·refine qk (qs (qb ?_))
  obtain⟨x5,hx5,x6,hx6,x7,hx7,h⟩:=kY h
  exact dk hC bD [oR aH hx5,.z (.nat 23),oR aH hx5,oA (aP rI hx6),.z (.at 5),.z (.fz 23 [31] []),.z (.int 0),oQ (bZ (r:=rI) 1 (fun _=>rfl) []),oQ (bZ (r:=rI) 1 (fun _=>rfl) x5.dims),oA (aP aH hx7),oQ (bZ (r:=aH) 2 iT x1),oQ (bZ (r:=aH) 2 iT [(⟨x5.name,x6⟩:Arr)])] (fr 16 20) [] [(23,none),(22,some (ar 77 (g3+1) 2 aH x7)),(21,sc [ms 22 (g3+1) 2 aH x7,V.t T.nilS])] [(23,true)] (rk hC [] [4,14,15] [(4,vI (wr (x2+1)))] [] [] ⟨(x7,wr (x2+1)),(g3+1),h,lS⟩)
 ·refine cM (qs (rq hC [] [5] [(5,vI 0)] [] [] (qb (qw (lk hC [.growc 21 1 23 62,.tre 23 mJ 2] [] [] [(23,some (E.tree mJ 2 1 (List.map aD []) [])),(21,sc [ms 22 g3 2 aH x1,ms 23 1 2 aD []])] [(23,true)]) (bA (γ:=Nat) h (fun x_ g_=>aX [(1,V.tp (bU p)),(2,V.ref 20 0),(3,V.ref 21 0),(5,vI x_.2)] [(20,E.cells [V.t T.nilS,V.t T.nilS]),(21,E.cells [ms 22 g3 2 aH x1,ms 23 g_ 2 aD x_.1]),(22,ar 77 g3 2 aH x1),(23,E.tree mJ 2 g_ (List.map aD x_.1) [])] [20,21,22,23]) 1 (lS) ?_)))))
  rintro again11 ⟨x8,x9⟩ g10 h
  refine qs (rq hC [oN aD p.parts] (fr 36 5) [(40,vB (decide (x9<(p.parts.length:Int))))] [] [] (aT h (fun c2 h=> ?_) (fun c2 h=> ?_)))
  ·refine qk (qs (qb ?_))
   obtain⟨x12,hx12,x13,hx13,h⟩:=cS h
   refine rq hC [oR aD hx12,oC [] [24] (Q3 G hx13),.z (.nat 25)] [6,43,44,45,46,47,48,49,50] [(6,V.ref 25 0)] [(24,some (E.tree mJ 0 1 (List.map aC x13) [])),(25,sc [ms 24 1 2 aC x13,V.t T.nilS])] [(24,true),(25,true)] (qs (rq hC [] [7] [(7,vI 0)] [] [] (qb (qw (lk hC [.growc 25 1 26 87] [] [] [(26,some (ar 87 1 9 aJ [])),(25,sc [ms 24 1 2 aC x13,ms 26 1 9 aJ []])] [(26,true)]) (bA (γ:=Nat) h (fun x_ g_=>aX [(1,V.tp (bU p)),(2,V.ref 20 0),(3,V.ref 21 0),(5,vI x9),(6,V.ref 25 0),(7,vI x_.2)] [(20,E.cells [V.t T.nilS,V.t T.nilS]),(21,E.cells [ms 22 g3 2 aH x1,ms 23 g10 2 aD x8]),(22,ar 77 g3 2 aH x1),(23,E.tree mJ 2 g10 (List.map aD x8) []),(24,E.tree mJ 0 1 (List.map aC x13) []),(25,E.cells [ms 24 1 2 aC x13,ms 26 g_ 9 aJ x_.1]),(26,ar 87 g_ 9 aJ x_.1)] [20,21,22,23,24,25,26]) 1 (lS) ?_)))))
   rintro again17 ⟨x14,x15⟩ g16 h
   refine qs (rq hC [oR aD hx12,oN aJ x12.body] (fr 51 9) [(59,vB (decide (x15<(x12.body.length:Int))))] [] [] (aT h (fun c3 h=> ?_) (fun c3 h=> ?_)))
   ·refine qk (qs (qb ?_))
    obtain⟨x18,hx18,x19,hx19,x20,hx20,h⟩:=kY h
    exact dk hC bD [oR aD hx12,oR aJ hx18,oC [] [27,28,29,30] (Q1 G hx19),.z (.at 4),.z (.fz 27 [73] []),.z (.at 4),.z (.fz 28 [73] []),.z (.at 4),.z (.fz 29 [73] []),.z (.at 4),.z (.fz 30 [73] []),.z (.int 0),oA (aP aJ hx20),oQ (bZ (r:=aJ) 9 gF x14),oQ (bZ (r:=aJ) 9 gF [x19])] (fr 62 15) [] [(27,none),(28,none),(29,none),(30,none),(26,some (ar 87 (g16+1) 9 aJ x20)),(25,sc [ms 24 1 2 aC x13,ms 26 (g16+1) 9 aJ x20])] [(27,true),(28,true),(29,true),(30,true)] (rk hC [] [7,60,61] [(7,vI (wr (x15+1)))] [] [] ⟨(x20,wr (x15+1)),(g16+1),h,lS⟩)
   ·refine cM ?_
    obtain⟨x21,hx21,h⟩:=bd h
    exact rk hC [.z (.at 5),.z (.shd 24),.z (.at 5),.z (.fz 24 [] [25]),.z (.lt 27 mJ 2),.z (.rows (List.map aD (x8++[(⟨x13,[]⟩:Part)]))),.z (.at 2),.z (.tre 26 mJ 3),.z (.unf 23 26 (aD (⟨x13,[]⟩:Part)) (List.map aD x21)),.z (.len 81 (List.map aD x21).length),oQ (Eq.refl (ndOf mJ 2)),oQ (aIc aD (⟨x13,[]⟩:Part) hx21),oQ (bZ (r:=aD) 2 fC x8),oQ (bZ (r:=aD) 2 fC [(⟨x13,[]⟩:Part)]),oQ (Eq.refl (List.map aJ x14).length),oQ (Eq.refl mJ),oQ (aAs aD x8 (⟨x13,[]⟩:Part)),oQ (aBB aD (ph:=(⟨x13,[]⟩:Part)) hx21 rfl),oQ (aG6 aD (⟨x13,[]⟩:Part) hx21)] (fr 77 6) [] [(24,none),(25,sc [vM aC x13,ms 26 g16 9 aJ x14]),(27,some (E.tree mJ 2 1 (List.map aD [(⟨x13,[]⟩:Part)]) [(0,1,ms 26 g16 9 aJ x14)])),(23,some (E.tree mJ 2 (g10+1) (List.map aD x21) [])),(26,none),(21,sc [ms 22 g3 2 aH x1,ms 23 (g10+1) 2 aD x21])] [(27,true)] (rk hC [] [5,41,42] [(5,vI (wr (x9+1)))] [] [] ⟨(x21,wr (x9+1)),(g10+1),h,lS⟩)
  ·obtain rfl:=so h
   exact cM (rq hC [] [83] [] [(20,sc [ms 22 g3 2 aH x1,ms 23 g10 2 aD x8])] [] (qw (lk hC [.rn 22 0 [] [20,21]] [] [] [(20,sc [ms 0 1 2 aH x1,ms 23 g10 2 aD x8]),(21,sc [ms 0 1 2 aH x1,ms 23 g10 2 aD x8]),(22,none),(0,some (ar 77 1 2 aH x1))] [(0,true)]) (qw (lk hC [.rn 23 1 [] [20,21]] [] [] [(20,sc [ms 0 1 2 aH x1,ms 1 1 2 aD x8]),(21,sc [ms 0 1 2 aH x1,ms 1 1 2 aD x8]),(23,none),(1,some (E.tree mJ 2 1 (List.map aD x8) []))] [(1,true)]) (qr eW))))
theorem aA2{r_a0}{p}{r}(h:nJ n r_a0 p=some r):VQ G 67 [eL r_a0] [V.ref 0 0,V.agg (bX p)] (V.agg (bX r.1)) [eL r.2]:=by
 unfold nJ at h
 refine vq aO Tryz.func67 rfl fun w X β0 hC hg=> ?_
 refine rq hC [.z (.b (true)),.z (.nat 20)] [3,4] [(3,V.tp (bU p)),(4,V.ref 20 0)] [(20,sc [V.t T.nilS,V.t T.nilS])] [(20,true)] ?_
 obtain⟨x1,hx1,h⟩:=bd h
 refine rq hC [oC [] [21,22] (aD8 G hx1),.z (.nat 23)] [5,7,8] [(5,V.ref 23 0)] [(21,some (ar 77 1 2 aH x1.arrays)),(22,some (E.tree mJ 2 1 (List.map aD x1.parts) [])),(23,sc [ms 21 1 2 aH x1.arrays,ms 22 1 2 aD x1.parts])] [(21,true),(22,true),(23,true)] (rq hC [oN aD x1.parts] [6,9,10,11] [(6,vI (x1.parts.length:Int))] [] [] ?_)
 obtain⟨j2,hj2,h⟩:=uW h
 refine gN (γ:=Nat) (j:=j2) (r:=r) (fun x_ g_=>aX [(4,V.ref 20 0),(5,V.ref 23 0)] [(0,E.cells [vM rY x_.1,vI x_.2.1]),(20,E.cells [V.t T.nilS,V.t T.nilS]),(21,ar 77 g_ 2 aH x_.2.2.1),(22,ar 62 1 2 aD x_.2.2.2),(23,E.cells [ms 21 g_ 2 aH x_.2.2.1,ms 22 1 2 aD x_.2.2.2])] [0,20,21,22,23]) ?_ ?_
 ·
  obtain⟨x3,hx3,h⟩:=bd h
  refine rq hC [oC [0] [] (bK G hx3)] [12,13] [(13,vI x3.1)] [(0,sR x3.2)] [(0,true)] (qb (rq hC [] [14,15] [(14,vB (decide (x3.1=0)))] [] [] (aT h (fun c1 h=> ?_) (fun c1 h=> ?_))))
  ·obtain⟨x4,hx4,x5,hx5,x6,hx6,h⟩:=kY h
   exact dk hC bD [.z (.int 0),oC [0] [] (mY G hx4),.z (.int 0),oC [0] [] (aZ G hx5),.z (.int 0),.z (.int 0),oA (aP aH hx6),oQ (bZ (r:=aH) 2 iT x1.arrays),oQ (bZ (r:=aH) 2 iT [(⟨x4.1,[x5.1]⟩:Arr)])] (fr 16 13) [] [(0,sR x5.2),(21,some (ar 77 2 2 aH x6)),(23,sc [ms 21 2 2 aH x6,ms 22 1 2 aD x1.parts])] [(0,true),(0,true)] ⟨(x5.2.b,x5.2.p,x6,x1.parts),2,h,((lk hC [.shd 22] [] [] [(22,some (ar 62 1 2 aD x1.parts))] []).trans (lS))⟩
  ·refine rq hC [] [29,30] [(29,vB (decide (x3.1=1)))] [] [] (aT h (fun c2 h=> ?_) (fun c2 h=> ?_))
   ·refine rq hC [oN aH x1.arrays] (fr 31 4) [(34,vB (decide ((0:Int)<(x1.arrays.length:Int))))] [] [] (aT h (fun c3 h=> ?_) (fun c3 h=> ?_))
    ·obtain⟨x7,hx7,x8,hx8,x9,hx9,h⟩:=kY h
     exact dk hC bD [.z (.int 0),oC [0] [] (aZ G hx7),.z (.int 0),oQ (iX aH hx8),oX aH hx8,.z (.rows (List.map aH x9)),oQ (str aH hx9)] (fr 35 8) [] [(0,sR x7.2),(21,some (ar 77 1 2 aH x9))] [(0,true)] ⟨(x7.2.b,x7.2.p,x9,x1.parts),1,h,((zQ hC [.lenc 23 0 (List.map aH x9).length] [] [] [(23,sc [ms 21 1 2 aH x9,ms 22 1 2 aD x1.parts])] [] (a1 (lI aH hx9)) (by kernel_rfl)).trans ((lk hC [.shd 22] [] [] [(22,some (ar 62 1 2 aD x1.parts))] []).trans (lS)))⟩
    ·exact qk ⟨(x3.2.b,x3.2.p,x1.arrays,x1.parts),1,h,((lk hC [.shd 22] [] [] [(22,some (ar 62 1 2 aD x1.parts))] []).trans (lS))⟩
   ·refine rq hC [] [43,44] [(43,vB (decide (x3.1=2)))] [] [] (aT h (fun c4 h=> ?_) (fun c4 h=> ?_))
    ·refine rq hC [] [45,46] [(46,vB (decide ((0:Int)<(x1.parts.length:Int))))] [] [] (aT h (fun c5 h=> ?_) (fun c5 h=> ?_))
     ·refine qw (lk hC [.shd 22] [] [] [(22,some (ar 62 1 2 aD x1.parts))] []) ?_
      obtain⟨x10,hx10,x11,hx11,x12,hx12,h⟩:=kY h
      obtain⟨x13,hx13,x14,hx14,h⟩:=cS h
      exact dk hC bD [oQ (iX aD hx10),oX aD hx10,oC [0] [24] (rH G hx11),.z (.at 5),.z (.fz 24 [57] []),oC [0] [25] (rH G hx12),.z (.at 4),.z (.fz 25 [58] []),oC [0] [26] (rH G hx13),.z (.at 1),.z (.fz 26 [59] []),oQ (iX aD hx10),oX aD hx10,.z (.rows (List.map aD x14)),oQ (str aD hx14)] (fr 47 15) [] [(24,none),(0,sR x13.2),(25,none),(26,none),(22,some (ar 62 1 2 aD x14))] [(0,true),(24,true),(0,true),(25,true),(0,true),(26,true)] ⟨(x13.2.b,x13.2.p,x1.arrays,x14),1,h,((zQ hC [.lenc 23 1 (List.map aD x14).length] [] [] [(23,sc [ms 21 1 2 aH x1.arrays,ms 22 1 2 aD x14])] [] (a1 (lI aD hx14)) (by kernel_rfl)).trans (lS))⟩
     ·exact qk ⟨(x3.2.b,x3.2.p,x1.arrays,x1.parts),1,h,((lk hC [.shd 22] [] [] [(22,some (ar 62 1 2 aD x1.parts))] []).trans (lS))⟩
    ·refine rq hC [] [62,63] [(62,vB (decide (x3.1=3)))] [] [] (aT h (fun c6 h=> ?_) (fun c6 h=> ?_))
     ·refine vj h (fun x_=>aX [(0,V.ref 0 0),(4,V.ref 20 0),(5,V.ref 23 0),(6,vI (x1.parts.length:Int)),(76,vB x_)] [(0,eL x3.2),(20,E.cells [V.t T.nilS,V.t T.nilS]),(21,ar 77 1 2 aH x1.arrays),(22,E.tree mJ 2 1 (List.map aD x1.parts) []),(23,E.cells [ms 21 1 2 aH x1.arrays,ms 22 1 2 aD x1.parts])] [0,20,21,22,23]) (fun j15 h=> ?_) (fun x17 h=> ?_)
      ·
       refine aS h (fun c7 h=> ?_) (fun c7 h=> ?_)
       ·exact rk hC (rF 10 c7) (fr 64 13) [(76,vB false)] [] [] (lE h)
       ·obtain⟨x16,hx16,h⟩:=bd h
        exact qw (zQ hC [.foc 22 24 (0+Int.toNat (wr ((x1.parts.length:Int)-1))) 1 (aD x16),.shd 24] [] [] [(22,some (E.tree mJ 2 1 (List.map aD x1.parts) [((0+Int.toNat (wr ((x1.parts.length:Int)-1))),1,ms 24 1 9 aJ x16.body)])),(24,some (ar 87 1 9 aJ x16.body))] [(24,true)] (a1 (o0 aD hx16)) (by kernel_rfl)) (rk hC (rT 5 c7++[oQ (iX aD hx16),oT c7,oT c7,oX aD hx16,oT c7,oN aJ x16.body,oT c7,oT c7]) (fr 64 13) [(76,vB (decide ((0:Int)<(x16.body.length:Int))))] [] [] ⟨decide ((0:Int)<(x16.body.length:Int)),h,((zQ hC [.tre 24 mJ 3,.unf 22 24 (aD x16) (List.map aD x1.parts)] [] [] [(24,none),(22,some (E.tree mJ 2 1 (List.map aD x1.parts) []))] [] (a4 (Eq.refl (List.map aJ x16.body).length) (Eq.refl mJ) (o0 aD hx16) (B9 aD hx16 rfl)) (by kernel_rfl)).trans (lS))⟩)
      ·refine aT h (fun c8 h=> ?_) (fun c8 h=> ?_)
       ·obtain⟨x18,hx18,h⟩:=bd h
        refine qw (zQ hC [.foc 22 24 (0+Int.toNat (wr ((x1.parts.length:Int)-1))) 1 (aD x18),.shd 24] [] [] [(22,some (E.tree mJ 2 1 (List.map aD x1.parts) [((0+Int.toNat (wr ((x1.parts.length:Int)-1))),1,ms 24 1 9 aJ x18.body)])),(24,some (ar 87 1 9 aJ x18.body))] [(24,true)] (a1 (o0 aD hx18)) (by kernel_rfl)) ?_
        obtain⟨x19,hx19,x20,hx20,x21,hx21,h⟩:=kY h
        obtain⟨x22,hx22,x23,hx23,h⟩:=cS h
        refine dk hC bD [oQ (iX aD hx18),oX aD hx18,oQ (iX aD hx18),oX aD hx18,oQ (iX aJ hx19),oX aJ hx19,oC [0] [] (rE G hx20),oC [0] [] (rE G hx21),oC [0] [] (rE G hx22),oQ (iX aJ hx19),oX aJ hx19,.z (.rows (List.map aJ x23)),oQ (str aJ hx23)] (fr 77 23) [] [(0,sR x22.2),(24,some (ar 87 1 9 aJ x23))] [(0,true),(0,true),(0,true)] ?_
        obtain⟨x24,hx24,h⟩:=bd h
        exact⟨(x22.2.b,x22.2.p,x1.arrays,x24),1,h,((zQ hC [.tre 24 mJ 3,.unf 22 24 (aD x18) (List.map aD x24),.lenc 23 1 (List.map aD x24).length] [] [] [(24,none),(22,some (E.tree mJ 2 1 (List.map aD x24) [])),(23,sc [ms 21 1 2 aH x1.arrays,ms 22 1 2 aD x24])] [] (a5 (lI aJ hx23) (Eq.refl mJ) (o0 aD hx18) (S4 aD hx24 rfl) (lI aD hx24)) (by kernel_rfl)).trans ((lk hC [.shd 22] [] [] [(22,some (ar 62 1 2 aD x24))] []).trans (lS)))⟩
       ·exact qk ⟨(x3.2.b,x3.2.p,x1.arrays,x1.parts),1,h,((lk hC [.shd 22] [] [] [(22,some (ar 62 1 2 aD x1.parts))] []).trans (lS))⟩
     ·refine rq hC [] [100,101] [(100,vB (decide (x3.1=4)))] [] [] (aT h (fun c9 h=> ?_) (fun c9 h=> ?_))
      ·refine rq hC [] [102,103] [(103,vB (decide ((0:Int)<(x1.parts.length:Int))))] [] [] (aT h (fun c10 h=> ?_) (fun c10 h=> ?_))
       ·refine qw (lk hC [.shd 22] [] [] [(22,some (ar 62 1 2 aD x1.parts))] []) ?_
        obtain⟨x25,hx25,x26,hx26,h⟩:=cS h
        exact rk hC [oQ (iX aD hx25),oX aD hx25,.z (.rows (List.map aD x26)),.z (.lenc 23 1 (List.map aD x26).length),oQ (str aD hx26),oQ (lI aD hx26)] (fr 104 6) [] [(22,some (ar 62 1 2 aD x26)),(23,sc [ms 21 1 2 aH x1.arrays,ms 22 1 2 aD x26])] [] ⟨(x3.2.b,x3.2.p,x1.arrays,x26),1,h,lS⟩
       ·exact qk ⟨(x3.2.b,x3.2.p,x1.arrays,x1.parts),1,h,((lk hC [.shd 22] [] [] [(22,some (ar 62 1 2 aD x1.parts))] []).trans (lS))⟩
      ·exact qk ⟨(x3.2.b,x3.2.p,x1.arrays,x1.parts),1,h,((lk hC [.shd 22] [] [] [(22,some (ar 62 1 2 aD x1.parts))] []).trans (lS))⟩
 ·rintro⟨x27,x28,x29,x30⟩ g31 h
  subst hj2
  obtain rfl:=so h
  exact rq hC [.z (.at 2),.z (.fz 21 [] [23]),.z (.at 2),.z (.fz 22 [] [23])] [110] [] [(23,sc [vM aH x29,vM aD x30]),(21,none),(22,none),(20,sc [vM aH x29,vM aD x30])] [] (qr eW)
theorem wI{s}{c}{r}(h:s8 n s c=some r):VQ G 154 [] [vS s,vY c] (ms 0 1 1 rS r) [ar 9 1 1 rS r]:=by
 unfold s8 at h
 refine vq aO Tryz.func154 rfl fun w X β0 hC hg=> ?_
 refine rq hC [] [4] [] [] [] (rq hC [.z (.nat 20)] [5,8] [(5,ms 20 1 1 rS [])] [(20,some (ar 9 1 1 rS []))] [(20,true)] (rq hC [] [6] [(6,vI 0)] [] [] (qs (rq hC [] [7] [(7,vI 0)] [] [] ?_))))
 refine qb (bA (γ:=Nat) h (fun x_ g_=>aX [(0,vS s),(1,vY c),(5,ms 20 g_ 1 rS x_.1),(6,vI x_.2.1),(7,vI x_.2.2)] [(20,ar 9 g_ 1 rS x_.1)] [20]) 1 (lS) ?_)
 rintro again5 ⟨x1,x2,x3⟩ g4 h
 refine qs (rq hC [] (fr 9 4) [(12,vB (decide (x3≤(s.length:Int))))] [] [] (aT h (fun c1 h=> ?_) (fun c1 h=> ?_)))
 ·refine qk ?_
  obtain⟨j6,hj6,h⟩:=uW h
  refine gN (γ:=Nat) (j:=j6) (r:=r) (fun x_ g_=>aX [(0,vS s),(1,vY c),(5,ms 20 g_ 1 rS x_.1),(6,vI x_.2),(7,vI x3)] [(20,ar 9 g_ 1 rS x_.1)] [20]) ?_ ?_
  ·
   refine qb (vj h (fun x_=>aX [(0,vS s),(1,vY c),(5,ms 20 g4 1 rS x1),(6,vI x2),(7,vI x3),(25,vB x_)] [(20,ar 9 g4 1 rS x1)] [20]) (fun j7 h=> ?_) (fun x9 h=> ?_))
   ·
    refine aS h (fun c2 h=> ?_) (fun c2 h=> ?_)
    ·obtain⟨x8,hx8,h⟩:=bd h
     exact rk hC (rF 3 c2++[oY hx8]++rF 3 c2) (fr 15 11) [(25,vB (decide ((x8.toNat:Int)=(c.toNat:Int))))] [] [] (lE h)
    ·exact rk hC (rT 6 c2) (fr 15 11) [(25,vB true)] [] [] (lE h)
   ·refine aT h (fun c3 h=> ?_) (fun c3 h=> ?_)
    ·obtain⟨x10,hx10,x11,hx11,h⟩:=cS h
     exact rq hC [oS hx10,.z (.int 0),oA (aP rS hx11),oQ (bZ (r:=rS) 1 (fun _=>rfl) x1),oQ (bZ (r:=rS) 1 (fun _=>rfl) [x10])] [5,26,27,28,29,30,31,32] [(5,ms 20 (g4+1) 1 rS x11)] [(20,some (ar 9 (g4+1) 1 rS x11))] [] (rk hC [] [6,33,34] [(6,vI (wr (x3+1)))] [] [] ⟨(x11,wr (x3+1)),(g4+1),h,lS⟩)
    ·exact qk ⟨(x1,x2),g4,h,lS⟩
  ·rintro⟨x12,x13⟩ g14 h
   subst hj6
   exact rk hC [] [7,13,14] [(7,vI (wr (x3+1)))] [] [] ⟨(x12,x13,wr (x3+1)),g14,h,lS⟩
 ·obtain rfl:=so h
  exact cM (rq hC [] [4,35] [(4,ms 20 g4 1 rS x1)] [] [] (qw (lk hC [.ren 4 20 0] [4] [(4,ms 0 1 1 rS x1)] [(0,some (ar 9 1 1 rS x1)),(20,none)] [(0,true)]) (qr eW)))
theorem yG{s}{r}(h:qN n s=some r):VQ G 203 [] [vS s] (ms 0 1 1 rS r) [ar 9 1 1 rS r]:=by
 unfold qN at h
 refine vq aO Tryz.func203 rfl fun w X β0 hC hg=> ?_
 refine rq hC [] [2] [] [] [] ?_
 obtain⟨x1,hx1,h⟩:=bd h
 refine rq hC [oC [] [20] (wI G hx1)] [3,6,7] [(3,ms 20 1 1 rS x1)] [(20,some (ar 9 1 1 rS x1))] [(20,true)] (rq hC [.z (.nat 21)] [4,8] [(4,ms 21 1 1 rS [])] [(21,some (ar 9 1 1 rS []))] [(21,true)] (qs (rq hC [] [5] [(5,vI 0)] [] [] (qb (bA (γ:=Nat) h (fun x_ g_=>aX [(3,ms 20 1 1 rS x1),(4,ms 21 g_ 1 rS x_.1),(5,vI x_.2)] [(20,ar 9 1 1 rS x1),(21,ar 9 g_ 1 rS x_.1)] [20,21]) 1 (lS) ?_)))))
 rintro again5 ⟨x2,x3⟩ g4 h
 refine qs (rq hC [oN rS x1] (fr 9 4) [(12,vB (decide (x3<(x1.length:Int))))] [] [] (aT h (fun c1 h=> ?_) (fun c1 h=> ?_)))
 ·refine qk ?_
  obtain⟨j6,hj6,h⟩:=uW h
  refine gN (γ:=Nat) (j:=j6) (r:=r) (fun x_ g_=>aX [(3,ms 20 1 1 rS x1),(4,ms 21 g_ 1 rS x_),(5,vI x3)] [(20,ar 9 1 1 rS x1),(21,ar 9 g_ 1 rS x_)] [20,21]) ?_ ?_
  ·
   refine qb ?_
   obtain⟨x7,hx7,h⟩:=bd h
   refine rq hC [oQ (iX rS hx7),oX rS hx7] (fr 15 5) [(19,vB (!decide (x7=[])))] [] [] (aT h (fun c2 h=> ?_) (fun c2 h=> ?_))
   ·obtain⟨x8,hx8,h⟩:=bd h
    exact rk hC [oQ (iX rS hx7),oX rS hx7,.z (.int 0),oA (aP rS hx8),oQ (bZ (r:=rS) 1 (fun _=>rfl) x2),oQ (bZ (r:=rS) 1 (fun _=>rfl) [x7])] [4,20,21,22,23,24,25,26] [(4,ms 21 (g4+1) 1 rS x8)] [(21,some (ar 9 (g4+1) 1 rS x8))] [] ⟨x8,(g4+1),h,lS⟩
   ·exact qk ⟨x2,g4,h,lS⟩
  ·rintro x9 g10 h
   subst hj6
   exact rk hC [] [5,13,14] [(5,vI (wr (x3+1)))] [] [] ⟨(x9,wr (x3+1)),g10,h,lS⟩
 ·obtain rfl:=so h
  exact cM (rq hC [] [2,27] [(2,ms 21 g4 1 rS x2)] [] [] (qw (lk hC [.ren 2 21 0] [2] [(2,ms 0 1 1 rS x2)] [(0,some (ar 9 1 1 rS x2)),(21,none)] [(0,true)]) (qr eW)))
theorem Q5{s}{r}(h:w7 n s=some r):PQ G 244 [vS s] (V.tup [vI r.1,vB r.2]):=by
 unfold w7 at h
 refine pq aO Tryz.func244 rfl fun w X hC=> ?_
 refine rq hC [] [2,3] [] [] [] (vj h (fun x_=>aX [(0,vS s),(4,vB x_)] [] []) (fun j1 h=> ?_) (fun x3 h=> ?_))
 ·
  refine aS h (fun c1 h=> ?_) (fun c1 h=> ?_)
  ·exact rk hC (rF 4 c1) [4,7,8,9,10,11,12,13,14] [(4,vB false)] [] [] (lE h)
  ·obtain⟨x2,hx2,h⟩:=bd h
   exact rk hC [oT c1,oT c1,oY hx2,oT c1,oT c1] [4,7,8,9,10,11,12,13,14] [(4,vB (decide ((x2.toNat:Int)=45)))] [] [] (lE h)
 ·refine vj h (fun x_=>aX [(0,vS x_),(4,vB x3)] [] []) (fun j4 h=> ?_) (fun x6 h=> ?_)
  ·
   refine rq hC [] [15] [(15,vB x3)] [] [] (aT h (fun c2 h=> ?_) (fun c2 h=> ?_))
   ·obtain⟨x5,hx5,h⟩:=bd h
    exact rk hC [oS hx5] [0,16,17] [(0,vS x5)] [] [] (lE h)
   ·exact qk (lE h)
  ·refine qs (vj h (fun x_=>aX [(0,vS x6),(4,vB x3),(38,vB x_)] [] []) (fun j7 h=> ?_) (fun x9 h=> ?_))
   ·
    refine aS h (fun c3 h=> ?_) (fun c3 h=> ?_)
    ·refine aS h (fun c4 h=> ?_) (fun c4 h=> ?_)
     ·obtain⟨x8,hx8,h⟩:=bd h
      refine aS h (fun c5 h=> ?_) (fun c5 h=> ?_)
      ·exact rk hC (rF 4 c3++[oF c4,oF c4,oY hx8,oF c4,oF c4]++rF 5 c5++[oF c4,oF c5,oF c4]) (fr 18 21) [(38,vB false)] [] [] (lE h)
      ·refine aS h (fun c6 h=> ?_) (fun c6 h=> ?_)
       ·exact rk hC (rF 4 c3++[oF c4,oF c4,oY hx8,oF c4,oF c4]++rT 4 c5++[oF c6,oT c5,oF c6,oF c4,oT c5,oF c4]) (fr 18 21) [(38,vB x3)] [] [] (lE h)
       ·exact rk hC (rF 4 c3++[oF c4,oF c4,oY hx8,oF c4,oF c4]++rT 4 c5++[oT c6,oT c5,oT c6,oF c4,oT c5,oF c4]) (fr 18 21) [(38,vB true)] [] [] (lE h)
     ·exact rk hC (rF 4 c3++rT 6 c4) (fr 18 21) [(38,vB true)] [] [] (lE h)
    ·exact rk hC (rT 4 c3++sT 6) (fr 18 21) [(38,vB true)] [] [] (lE h)
   ·refine aT h (fun c7 h=> ?_) (fun c7 h=> ?_)
    ·obtain rfl:=so h
     exact rq hC [] [2,3] [(2,vI 0),(3,vB false)] [] [] (qr eR)
    ·refine qk (rq hC [] [5] [(5,vI 0)] [] [] (qs (rq hC [] [6] [(6,vI 0)] [] [] (qb (jP h (fun x_=>aX [(0,vS x6),(4,vB x3),(5,vI x_.1),(6,vI x_.2)] [] []) lS ?_)))))
     rintro again12 ⟨x10,x11⟩ h
     refine qs (rq hC [] (fr 39 4) [(42,vB (decide (x11<(x6.length:Int))))] [] [] (aT h (fun c8 h=> ?_) (fun c8 h=> ?_)))
     ·refine qk (qs (qb (qs (vj h (fun x_=>aX [(0,vS x6),(4,vB x3),(5,vI x10),(6,vI x11),(54,vB x_)] [] []) (fun j13 h=> ?_) (fun x15 h=> ?_)))))
      ·
       obtain⟨x14,hx14,h⟩:=bd h
       refine aS h (fun c9 h=> ?_) (fun c9 h=> ?_)
       ·exact rk hC ([oY hx14]++rF 3 c9++[oY hx14,oF c9,oF c9]) (fr 45 10) [(54,vB (decide ((57:Int)<(x14.toNat:Int))))] [] [] (lE h)
       ·exact rk hC ([oY hx14]++rT 5 c9) (fr 45 10) [(54,vB true)] [] [] (lE h)
      ·refine aT h (fun c10 h=> ?_) (fun c10 h=> ?_)
       ·obtain rfl:=so h
        exact rq hC [] [2,3] [(2,vI 0),(3,vB false)] [] [] (qr eR)
       ·refine qk ?_
        obtain⟨x16,hx16,h⟩:=bd h
        exact rk hC [oY hx16,.z (.int ((x16-(48:UInt8)).toNat:Int)),oQ (cvu (aKp x16 (48:UInt8)))] [5,55,56,57,58,59,60,61,62] [(5,vI (wr ((wr (x10*10))+((x16-(48:UInt8)).toNat:Int))))] [] [] (rk hC [] [6,43,44] [(6,vI (wr (x11+1)))] [] [] (lE h))
     ·refine cM (vj h (fun x_=>aX [(5,vI x_)] [] []) (fun j17 h=> ?_) (fun x18 h=> ?_))
      ·
       refine rq hC [] [63] [(63,vB x3)] [] [] (aT h (fun c11 h=> ?_) (fun c11 h=> ?_))
       ·exact rk hC [] [5,64,65] [(5,vI (wr (0-x10)))] [] [] (lE h)
       ·exact qk (lE h)
      ·obtain rfl:=so h
       exact rq hC [] [2,3,66] [(2,vI x18),(3,vB true)] [] [] (qr eR)
theorem aCn{w_a0}{r}(h:y6 n w_a0=some r):PQ G 204 [vM rS w_a0] (V.agg [vS r.name,vM rI r.dims]):=by
 unfold y6 at h
 refine pq aO Tryz.func204 rfl fun w X hC=> ?_
 refine rq hC [.z (.nat 20)] [2] [(2,V.ref 20 0)] [(20,sc [vS [],V.t T.nilS])] [(20,true)] (rq hC [.z (.nat 21)] [3,7] [(3,V.ref 21 0)] [(21,sc [vS [],V.t T.nilS])] [(21,true)] (qs (rq hC [] [4] [(4,vI 1)] [] [] (qb (qw (lk hC [.growc 21 1 22 3] [] [] [(22,some (ar 3 1 1 rI [])),(21,sc [vS [],ms 22 1 1 rI []])] [(22,true)]) ?_)))))
 refine bA (γ:=Nat) h (fun x_ g_=>aX [(0,vM rS w_a0),(2,V.ref 20 0),(3,V.ref 21 0),(4,vI x_.2.2)] [(20,E.cells [vS [],V.t T.nilS]),(21,E.cells [vS x_.1,ms 22 g_ 1 rI x_.2.1]),(22,ar 3 g_ 1 rI x_.2.1)] [20,21,22]) 1 (lS) ?_
 rintro again5 ⟨x1,x2,x3⟩ g4 h
 refine qs (vj h (fun x_=>aX [(0,vM rS w_a0),(2,V.ref 20 0),(3,V.ref 21 0),(4,vI x3),(15,vB x_)] [(20,E.cells [vS [],V.t T.nilS]),(21,E.cells [vS x1,ms 22 g4 1 rI x2]),(22,ar 3 g4 1 rI x2)] [20,21,22]) (fun j6 h=> ?_) (fun x7 h=> ?_))
 ·
  refine aS h (fun c1 h=> ?_) (fun c1 h=> ?_)
  ·exact rk hC ([oN rS w_a0]++rF 3 c1) (fr 8 8) [(15,vB false)] [] [] (lE h)
  ·exact rk hC ([oN rS w_a0]++rT 3 c1) (fr 8 8) [(15,vB (decide (x3≤4)))] [] [] (lE h)
 ·refine aT h (fun c2 h=> ?_) (fun c2 h=> ?_)
  ·refine qk ?_
   obtain⟨j8,hj8,h⟩:=uW h
   refine gN (γ:=Nat) (j:=j8) (r:=r) (fun x_ g_=>aX [(0,vM rS w_a0),(2,V.ref 20 0),(3,V.ref 21 0),(4,vI x3)] [(20,E.cells [vS [],V.t T.nilS]),(21,E.cells [vS x_.1,ms 22 g_ 1 rI x_.2]),(22,ar 3 g_ 1 rI x_.2)] [20,21,22]) ?_ ?_
   ·
    refine qb (qs (rq hC [] [18,19] [(19,vB (decide (x3=1)))] [] [] (aT h (fun c3 h=> ?_) (fun c3 h=> ?_))))
    ·obtain⟨x9,hx9,h⟩:=bd h
     exact rq hC [oR rS hx9] (fr 20 4) [] [(21,sc [vS x9,ms 22 g4 1 rI x2])] [] (cM ⟨(x9,x2),g4,h,lS⟩)
    ·refine qk ?_
     obtain⟨x10,hx10,x11,hx11,h⟩:=cS h
     refine rq hC [oR rS hx10,oV (Q5 G hx11)] [5,6,24,25,26,27,28,29,30,31] [(5,vI x11.1)] [] [] ?_
     obtain⟨x12,hx12,h⟩:=bd h
     exact rk hC [.z (.int 0),oA (aP rI hx12),oQ (bZ (r:=rI) 1 (fun _=>rfl) x2),oQ (bZ (r:=rI) 1 (fun _=>rfl) [x11.1])] (fr 32 6) [] [(22,some (ar 3 (g4+1) 1 rI x12)),(21,sc [vS x1,ms 22 (g4+1) 1 rI x12])] [] ⟨(x1,x12),(g4+1),h,lS⟩
   ·rintro⟨x13,x14⟩ g15 h
    subst hj8
    exact rk hC [] [4,16,17] [(4,vI (wr (x3+1)))] [] [] ⟨(x13,x14,wr (x3+1)),g15,h,lS⟩
  ·obtain rfl:=so h
   exact cM (rq hC [.z (.at 2),.z (.fz 22 [] [21])] [38] [] [(21,sc [vS x1,vM rI x2]),(22,none),(20,sc [vS x1,vM rI x2])] [] (qr eR))
theorem aEg{s}{at_a1}{r}(h:J3 n s at_a1=some r):PQ G 289 [vS s,vI at_a1] (vI r):=by
 unfold J3 at h
 refine pq aO Tryz.func289 rfl fun w X hC=> ?_
 refine rq hC [] [4] [] [] [] (qs (vj h (fun x_=>aX [(0,vS s),(1,vI at_a1),(20,vB x_)] [] []) (fun j1 h=> ?_) (fun x3 h=> ?_)))
 ·
  refine aS h (fun c1 h=> ?_) (fun c1 h=> ?_)
  ·obtain⟨x2,hx2,h⟩:=bd h
   refine aS h (fun c2 h=> ?_) (fun c2 h=> ?_)
   ·exact rk hC (rF 3 c1++[oY hx2,oF c1,oF c1]++rF 3 c2++[oY hx2,oF c2,oF c2]) (fr 5 16) [(20,vB (decide ((108:Int)<(x2.toNat:Int))))] [] [] (lE h)
   ·exact rk hC (rF 3 c1++[oY hx2,oF c1,oF c1]++rT 5 c2) (fr 5 16) [(20,vB true)] [] [] (lE h)
  ·exact rk hC (rT 5 c1++sT 5) (fr 5 16) [(20,vB true)] [] [] (lE h)
 ·refine aT h (fun c3 h=> ?_) (fun c3 h=> ?_)
  ·obtain rfl:=so h
   exact rq hC [] [4] [(4,vI (-1))] [] [] (qr eR)
  ·refine qk ?_
   obtain⟨x4,hx4,h⟩:=bd h
   obtain rfl:=so h
   exact rq hC [oY hx4,.z (.int (x4.toNat:Int)),oQ (u8i x4)] [4,21,22,23,24,25] [(4,vI (wr ((x4.toNat:Int)-105)))] [] [] (qr eR)
theorem yF{s}{at_a1}{r}(h:qM n s at_a1=some r):PQ G 275 [vS s,vI at_a1] (V.tup [vI r.1,vI r.2]):=by
 unfold qM at h
 refine pq aO Tryz.func275 rfl fun w X hC=> ?_
 refine rq hC [] [4,5] [] [] [] (rq hC [] [6,9] [(6,vI at_a1)] [] [] (qs (qb (jP h (fun x_=>aX [(0,vS s),(1,vI at_a1),(6,vI x_)] [] []) lS ?_))))
 rintro again2 x1 h
 refine qs (vj h (fun x_=>aX [(0,vS s),(1,vI at_a1),(6,vI x1),(31,vB x_)] [] []) (fun j3 h=> ?_) (fun x5 h=> ?_))
 ·
  refine aS h (fun c1 h=> ?_) (fun c1 h=> ?_)
  ·exact rk hC (rF 5 c1++sF 10) (fr 10 22) [(31,vB false)] [] [] (lE h)
  ·refine aS h (fun c2 h=> ?_) (fun c2 h=> ?_)
   ·exact rk hC (rT 5 c1++rF 5 c2++sF 5) (fr 10 22) [(31,vB false)] [] [] (lE h)
   ·obtain⟨x4,hx4,h⟩:=bd h
    refine aS h (fun c3 h=> ?_) (fun c3 h=> ?_)
    ·exact rk hC (rT 5 c1++rT 3 c2++[oY hx4,oT c2,oT c2]++rF 5 c3) (fr 10 22) [(31,vB false)] [] [] (lE h)
    ·exact rk hC (rT 5 c1++rT 3 c2++[oY hx4,oT c2,oT c2]++rT 3 c3++[oY hx4,oT c3,oT c3]) (fr 10 22) [(31,vB (decide ((x4.toNat:Int)≤57)))] [] [] (lE h)
 ·refine aT h (fun c4 h=> ?_) (fun c4 h=> ?_)
  ·exact qk (qb (rk hC [] [6,32,33] [(6,vI (wr (x1+1)))] [] [] (lE h)))
  ·refine cM ?_
   obtain⟨x6,hx6,x7,hx7,h⟩:=cS h
   refine rq hC [oS hx6,oV (Q5 G hx7)] [7,8,34,35,36,37,38,39,40,41] [(7,vI x7.1),(8,vB x7.2)] [] [] (qs (rq hC [] [42,43] [(43,vB (!x7.2))] [] [] (aT h (fun c5 h=> ?_) (fun c5 h=> ?_))))
   ·obtain rfl:=so h
    exact rq hC [] [4,5,44] [(4,vI 1),(5,vI at_a1)] [] [] (qr eR)
   ·obtain rfl:=so h
    exact qk (rq hC [] [4,5,45,46] [(4,vI x7.1),(5,vI x1)] [] [] (qr eR))
theorem aCv{a}{s}{at_a2}{r}(h:y8 n a s at_a2=some r):PQ G 283 [V.agg (aQ a),vS s,vI at_a2] (V.tup [V.agg (aQ r.1),vI r.2]):=by
 unfold y8 at h
 refine pq aO Tryz.func283 rfl fun w X hC=> ?_
 refine rq hC [.z (.b (true)),.z (.nat 20)] [3,6,7] [(3,V.tp (bJ a)),(6,V.ref 20 0)] [(20,sc [V.t T.nilS,vI 0])] [(20,true)] (rq hC [] [8] [(8,vI 1)] [] [] (vj h (fun x_=>aX [(1,vS s),(2,vI at_a2),(3,V.tp (bJ a)),(6,V.ref 20 0),(8,vI x_)] [(20,E.cells [V.t T.nilS,vI 0])] [20]) (fun j1 h=> ?_) (fun x3 h=> ?_)))
 ·
  obtain⟨x2,hx2,h⟩:=bd h
  refine rq hC [oY hx2] (fr 14 4) [(17,vB (decide ((x2.toNat:Int)=45)))] [] [] (aT h (fun c1 h=> ?_) (fun c1 h=> ?_))
  ·exact rk hC [] [8] [(8,vI (-1))] [] [] (lE h)
  ·exact qk (lE h)
 ·refine vj h (fun x_=>aX [(1,vS s),(2,vI x_),(3,V.tp (bJ a)),(6,V.ref 20 0),(8,vI x3)] [(20,E.cells [V.t T.nilS,vI 0])] [20]) (fun j4 h=> ?_) (fun x8 h=> ?_)
  ·
   refine vj h (fun x_=>aX [(1,vS s),(2,vI at_a2),(3,V.tp (bJ a)),(6,V.ref 20 0),(8,vI x3),(27,vB x_)] [(20,E.cells [V.t T.nilS,vI 0])] [20]) (fun j5 h=> ?_) (fun x7 h=> ?_)
   ·
    obtain⟨x6,hx6,h⟩:=bd h
    refine aS h (fun c2 h=> ?_) (fun c2 h=> ?_)
    ·exact rk hC ([oY hx6]++rF 3 c2++[oY hx6,oF c2,oF c2]) (fr 18 10) [(27,vB (decide ((x6.toNat:Int)=43)))] [] [] (lE h)
    ·exact rk hC ([oY hx6]++rT 5 c2) (fr 18 10) [(27,vB true)] [] [] (lE h)
   ·refine aT h (fun c3 h=> ?_) (fun c3 h=> ?_)
    ·exact rk hC [] [2,28,29] [(2,vI (wr (at_a2+1)))] [] [] (lE h)
    ·exact qk (lE h)
  ·obtain⟨x9,hx9,h⟩:=bd h
   refine rq hC [oV (yF G hx9)] [9,10,30,31,32,33,34,35] [(9,vI x9.1),(10,vI x9.2)] [] [] (rq hC [] [11,36] [(11,vI x9.2)] [] [] (vj h (fun x_=>aX [(1,vS s),(2,vI x8),(3,V.tp (bJ a)),(6,V.ref 20 0),(8,vI x3),(9,vI x9.1),(10,vI x9.2),(11,vI x_)] [(20,E.cells [V.t T.nilS,vI 0])] [20]) (fun j10 h=> ?_) (fun x14 h=> ?_)))
   ·
    refine vj h (fun x_=>aX [(1,vS s),(2,vI x8),(3,V.tp (bJ a)),(6,V.ref 20 0),(8,vI x3),(9,vI x9.1),(10,vI x9.2),(11,vI x9.2),(51,vB x_)] [(20,E.cells [V.t T.nilS,vI 0])] [20]) (fun j11 h=> ?_) (fun x13 h=> ?_)
    ·
     refine aS h (fun c4 h=> ?_) (fun c4 h=> ?_)
     ·exact rk hC (rF 5 c4++sF 5) (fr 37 15) [(51,vB false)] [] [] (lE h)
     ·refine aS h (fun c5 h=> ?_) (fun c5 h=> ?_)
      ·exact rk hC (rT 5 c4++rF 5 c5) (fr 37 15) [(51,vB false)] [] [] (lE h)
      ·obtain⟨x12,hx12,h⟩:=bd h
       exact rk hC (rT 5 c4++rT 3 c5++[oY hx12,oT c5,oT c5]) (fr 37 15) [(51,vB (decide ((x12.toNat:Int)=42)))] [] [] (lE h)
    ·refine aT h (fun c6 h=> ?_) (fun c6 h=> ?_)
     ·exact rk hC [] [11,52,53] [(11,vI (wr (x9.2+1)))] [] [] (lE h)
     ·exact qk (lE h)
   ·obtain⟨x15,hx15,h⟩:=bd h
    refine rq hC [oV (aEg G hx15)] [12,54,55,56] [(12,vI x15)] [] [] (qs ?_)
    obtain⟨x16,hx16,h⟩:=bd h
    refine dk hC bD [.z (.nat 21),oA (aP rI hx16),.z (.nat 22),oQ (bZ (r:=rI) 1 (fun _=>rfl) []),oQ (bZ (r:=rI) 1 (fun _=>rfl) a.coefs)] [13,57,58,59,60,61,62,63] [(13,V.ref 22 0)] [(21,some (ar 3 2 1 rI x16)),(22,sc [ms 21 2 1 rI x16,vI a.const])] [(21,true),(22,true)] (qs (vj h (fun x_=>aX [(2,vI x8),(3,V.tp (bJ a)),(6,V.ref 20 0),(8,vI x3),(9,vI x9.1),(10,vI x9.2),(11,vI x14),(12,vI x15),(13,V.ref 22 0),(75,vB x_)] [(20,E.cells [V.t T.nilS,vI 0]),(21,ar 3 2 1 rI x16),(22,E.cells [ms 21 2 1 rI x16,vI a.const])] [20,21,22]) (fun j17 h=> ?_) (fun x18 h=> ?_)))
    ·
     refine aS h (fun c7 h=> ?_) (fun c7 h=> ?_)
     ·exact rk hC (rF 6 c7) (fr 64 12) [(75,vB false)] [] [] (lE h)
     ·refine aS h (fun c8 h=> ?_) (fun c8 h=> ?_)
      ·exact rk hC (rT 4 c7++rF 3 c8++[oT c7,oF c8,oT c7]) (fr 64 12) [(75,vB (decide (x9.2=x8)))] [] [] (lE h)
      ·exact rk hC (rT 4 c7++rT 3 c8++[oT c7,oT c8,oT c7]) (fr 64 12) [(75,vB true)] [] [] (lE h)
    ·refine aT h (fun c9 h=> ?_) (fun c9 h=> ?_)
     ·refine qs ?_
      obtain⟨x19,hx19,x20,hx20,h⟩:=cS h
      obtain rfl:=so h
      exact dk hC bD [oQ (iX rI hx19),oX rI hx19,oQ (iX rI hx19),oX rI hx19,.z (.rows (List.map rI x20)),oQ (str rI hx20)] (fr 76 13) [] [(21,some (ar 3 2 1 rI x20))] [] (qw (zQ hC [.lenc 22 0 (List.map rI x20).length] [] [] [(22,sc [ms 21 2 1 rI x20,vI a.const])] [] (a1 (lI rI hx20)) (by kernel_rfl)) (rq hC [.z (.at 5),.z (.fz 21 [] [22])] [7,89,90,91] [(7,vI (wr (x14+1)))] [(22,sc [vM rI x20,vI a.const]),(21,none),(20,sc [vM rI x20,vI a.const])] [] (qr eR)))
     ·refine qk (qs (rq hC [] [92,93,94] [(94,vB (decide (x9.2=x8)))] [] [] (aT h (fun c10 h=> ?_) (fun c10 h=> ?_))))
      ·obtain rfl:=so h
       exact rq hC [] [7,95] [(7,vI (-1))] [(20,some (E.cells (aQ a)))] [] (qr eR)
      ·obtain rfl:=so h
       exact qk (rq hC [] (fr 96 7) [] [(22,sc [ms 21 2 1 rI x16,vI (wr (a.const+(wr (x3*x9.1))))])] [] (rq hC [.z (.at 4),.z (.fz 21 [] [22])] [7,103,104] [(7,vI x9.2)] [(22,sc [vM rI x16,vI (wr (a.const+(wr (x3*x9.1))))]),(21,none),(20,sc [vM rI x16,vI (wr (a.const+(wr (x3*x9.1))))])] [] (qr eR)))
theorem rK(G:GS): ∀(n:Nat) (n_a0:Int) {r:(List UInt8)} (h:s_l16Dec n n_a0=some r),PQ G 207 [vI n_a0] (vS r):=by
 intro n
 induction n with
 |zero=>intro n_a0 r h;rw [s_l16Dec.eq_def] at h;cases h
 |succ n ih=>
  intro n_a0 r h
  rw [s_l16Dec.eq_def] at h;dsimp only at h
  refine pq aO Tryz.func207 rfl fun w X hC=> ?_
  refine rq hC [] [2] [] [] [] (qs (rq hC [] [4,5] [(5,vB (decide (n_a0<(-9223372036854775807))))] [] [] (aT h (fun c1 h=> ?_) (fun c1 h=> ?_))))
  ·obtain rfl:=so h
   exact rq hC [] [2] [(2,vS [45,57,50,50,51,51,55,50,48,51,54,56,53,52,55,55,53,56,48,56])] [] [] (qr eR)
  ·refine qk (qs (rq hC [] [6,7] [(7,vB (decide (n_a0<0)))] [] [] (aT h (fun c2 h=> ?_) (fun c2 h=> ?_))))
   ·obtain⟨x1,hx1,x2,hx2,h⟩:=cS h
    obtain rfl:=so h
    exact rq hC [oV (ih (wr (0-n_a0)) hx1),oS hx2] [2,8,9,10,11] [(2,vS x2)] [] [] (qr eR)
   ·refine qk (rq hC [] [3] [(3,vS [])] [] [] (qs (qb (jP h (fun x_=>aX [(0,vI x_.1),(3,vS x_.2)] [] []) lS ?_))))
    rintro again5 ⟨x3,x4⟩ h
    refine qs (rq hC [] [12,13] [(13,vB (decide ((9:Int)<x3)))] [] [] (aT h (fun c3 h=> ?_) (fun c3 h=> ?_)))
    ·refine qk (qb ?_)
     obtain⟨x6,hx6,h⟩:=bd h
     exact rq hC [.z (.y (UInt8.ofInt (wr (48+(Int.tmod x3 10))))),.z (.int 0),.z (.str [UInt8.ofInt (wr (48+(Int.tmod x3 10)))]),oQ (show(10:Int)≠0 by decide),oQ (Eq.refl (UInt8.ofInt (wr (48+(Int.tmod x3 10))))),oQ (Eq.refl (List.map kV [UInt8.ofInt (wr (48+(Int.tmod x3 10)))])),oS hx6] [3,14,15,16,17,18,19,20,21] [(3,vS x6)] [] [] (rk hC [oQ (show(10:Int)≠0 by decide)] [0,22,23] [(0,vI (wr (Int.tdiv x3 10)))] [] [] (lE h))
    ·refine cM ?_
     obtain⟨x7,hx7,h⟩:=bd h
     obtain rfl:=so h
     exact rq hC [.z (.y (UInt8.ofInt (wr (48+x3)))),.z (.int 0),.z (.str [UInt8.ofInt (wr (48+x3))]),oQ (Eq.refl (UInt8.ofInt (wr (48+x3)))),oQ (Eq.refl (List.map kV [UInt8.ofInt (wr (48+x3))])),oS hx7] [2,24,25,26,27,28,29,30] [(2,vS x7)] [] [] (qr eR)
theorem Q4{n_a0}{name}{r}(h:w6 n n_a0 name=some r):PQ G 276 [vI n_a0,vS name] (vS r):=by
 unfold w6 at h
 refine pq aO Tryz.func276 rfl fun w X hC=> ?_
 refine rq hC [] [4] [] [] [] (rq hC [] [5] [(5,vS [43])] [] [] (vj h (fun x_=>aX [(0,vI x_.1),(1,vS name),(5,vS x_.2)] [] []) (fun j1 h=> ?_) ?_))
 ·
  refine rq hC [] [6,7] [(7,vB (decide (n_a0<0)))] [] [] (aT h (fun c1 h=> ?_) (fun c1 h=> ?_))
  ·exact rq hC [] [5] [(5,vS [45])] [] [] (rk hC [] [0,8,9] [(0,vI (wr (0-n_a0)))] [] [] (lE h))
  ·exact qk (lE h)
 ·rintro⟨x2,x3⟩ h
  refine qs (rq hC [] [10,11] [(11,vB (decide (name=[])))] [] [] (aT h (fun c2 h=> ?_) (fun c2 h=> ?_)))
  ·obtain⟨x4,hx4,x5,hx5,h⟩:=cS h
   obtain rfl:=so h
   exact rq hC [oV (rK G n x2 hx4),oS hx5] [4,12,13,14,15] [(4,vS x5)] [] [] (qr eR)
  ·refine qk (qs (rq hC [] [16,17] [(17,vB (decide (x2=1)))] [] [] (aT h (fun c3 h=> ?_) (fun c3 h=> ?_))))
   ·obtain⟨x6,hx6,h⟩:=bd h
    obtain rfl:=so h
    exact rq hC [oS hx6] [4,18,19,20] [(4,vS x6)] [] [] (qr eR)
   ·refine qk ?_
    obtain⟨x7,hx7,x8,hx8,x9,hx9,h⟩:=kY h
    obtain⟨x10,hx10,h⟩:=bd h
    obtain rfl:=so h
    exact rq hC [oV (rK G n x2 hx7),oS hx8,oS hx9,oS hx10] [4,21,22,23,24,25,26,27] [(4,vS x10)] [] [] (qr eR)
theorem wH{a}{r}(h:sY n a=some r):PQ G 250 [V.agg (aQ a)] (vS r):=by
 unfold sY at h
 refine pq aO Tryz.func250 rfl fun w X hC=> ?_
 refine rq hC [.z (.b (true))] [1,2] [(1,V.tp (bJ a))] [] [] (rq hC [] [3] [(3,vS [])] [] [] (qs (rq hC [] [4] [(4,vI 0)] [] [] (qb (jP h (fun x_=>aX [(1,V.tp (bJ a)),(3,vS x_.1),(4,vI x_.2)] [] []) lS ?_)))))
 rintro again3 ⟨x1,x2⟩ h
 refine qs (rq hC [oN rI a.coefs] (fr 5 5) [(9,vB (decide (x2<(a.coefs.length:Int))))] [] [] (aT h (fun c1 h=> ?_) (fun c1 h=> ?_)))
 ·refine qk (vj h (fun x_=>aX [(1,V.tp (bJ a)),(3,vS x_),(4,vI x2)] [] []) (fun j4 h=> ?_) (fun x9 h=> ?_))
  ·
   refine qb ?_
   obtain⟨x5,hx5,h⟩:=bd h
   refine rq hC [oR rI hx5] (fr 12 6) [(17,vB (!decide (x5=0)))] [] [] (aT h (fun c2 h=> ?_) (fun c2 h=> ?_))
   ·obtain⟨x6,hx6,x7,hx7,x8,hx8,h⟩:=kY h
    exact dk hC bD [oR rI hx5,oS hx6,oV (Q4 G hx7),oS hx8] [3,18,19,20,21,22,23,24,25,26,27,28,29] [(3,vS x8)] [] [] (lE h)
   ·exact qk (lE h)
  ·exact rk hC [] [4,10,11] [(4,vI (wr (x2+1)))] [] [] (lE h)
 ·refine cM (vj h (fun x_=>aX [(3,vS x_)] [] []) (fun j10 h=> ?_) (fun x13 h=> ?_))
  ·
   refine rq hC [] [30,31,32] [(32,vB (!decide (a.const=0)))] [] [] (aT h (fun c3 h=> ?_) (fun c3 h=> ?_))
   ·obtain⟨x11,hx11,x12,hx12,h⟩:=cS h
    exact rk hC [oV (Q4 G hx11),oS hx12] [3,33,34,35,36,37] [(3,vS x12)] [] [] (lE h)
   ·exact qk (lE h)
  ·refine qs (rq hC [] [38,39] [(39,vB (decide (x13=[])))] [] [] (aT h (fun c4 h=> ?_) (fun c4 h=> ?_)))
   ·obtain rfl:=so h
    exact rq hC [] [2] [(2,vS [48])] [] [] (qr eR)
   ·refine qk (qs ?_)
    obtain⟨x14,hx14,h⟩:=bd h
    refine rq hC [oS hx14] [40,41,42] [(42,vB (decide (x14=[43])))] [] [] (aT h (fun c5 h=> ?_) (fun c5 h=> ?_))
    ·obtain⟨x15,hx15,h⟩:=bd h
     obtain rfl:=so h
     exact rq hC [oS hx15] [2,43,44] [(2,vS x15)] [] [] (qr eR)
    ·obtain rfl:=so h
     exact qk (rq hC [] [2,45] [(2,vS x13)] [] [] (qr eR))
theorem rJ{n_a0}{most}{r}(h:jL n n_a0 most=some r):PQ G 41 [vI n_a0,vI most] (vB r):=by
 unfold jL at h
 refine pq aO Tryz.func41 rfl fun w X hC=> ?_
 refine rq hC [] [4] [] [] [] (vj h (fun x_=>aX [(4,vB x_)] [] []) (fun j1 h=> ?_) (fun x2 h=> ?_))
 ·
  refine aS h (fun c1 h=> ?_) (fun c1 h=> ?_)
  ·exact rk hC (rF 4 c1) (fr 4 10) [(4,vB false)] [] [] (lE h)
  ·exact rk hC (rT 4 c1) (fr 4 10) [(4,vB (decide (n_a0≤most)))] [] [] (lE h)
 ·obtain rfl:=so h
  exact qr eR
theorem dR{a}{r}(h:dY n a=some r):PQ G 253 [V.agg (aQ a)] (vB r):=by
 unfold dY at h
 refine pq aO Tryz.func253 rfl fun w X hC=> ?_
 refine rq hC [.z (.b (true))] [1,2] [(1,V.tp (bJ a))] [] [] (qs (rq hC [] [3] [(3,vI 0)] [] [] (qb (jP h (fun x_=>aX [(1,V.tp (bJ a)),(3,vI x_)] [] []) lS ?_))))
 rintro again2 x1 h
 refine qs (rq hC [oN rI a.coefs] (fr 4 5) [(8,vB (decide (x1<(a.coefs.length:Int))))] [] [] (aT h (fun c1 h=> ?_) (fun c1 h=> ?_)))
 ·refine qk (qs (qb ?_))
  obtain⟨x3,hx3,x4,hx4,h⟩:=cS h
  refine rq hC [oR rI hx3,oV (rJ G hx4)] (fr 11 7) [(17,vB (!x4))] [] [] (aT h (fun c2 h=> ?_) (fun c2 h=> ?_))
  ·obtain rfl:=so h
   exact rq hC [] [2] [(2,vB false)] [] [] (qr eR)
  ·exact qk (rk hC [] [3,9,10] [(3,vI (wr (x1+1)))] [] [] (lE h))
 ·refine cM (vj h (fun x_=>aX [(2,vB x_)] [] []) (fun j5 h=> ?_) (fun x7 h=> ?_))
  ·
   refine aS h (fun c3 h=> ?_) (fun c3 h=> ?_)
   ·exact rk hC ([oN rI a.coefs]++rF 4 c3) [2,18,19,20,21,22,23,24,25,26] [(2,vB false)] [] [] (lE h)
   ·obtain⟨x6,hx6,h⟩:=bd h
    exact rk hC ([oN rI a.coefs]++rT 3 c3++[oV (rJ G hx6),oT c3]) [2,18,19,20,21,22,23,24,25,26] [(2,vB x6)] [] [] (lE h)
  ·obtain rfl:=so h
   exact qr eR
theorem B0{a}{r}(h:nO n a=some r):PQ G 284 [V.agg (aQ a)] (vS r):=by
 unfold nO at h
 refine pq aO Tryz.func284 rfl fun w X hC=> ?_
 refine rq hC [.z (.b (true))] [1,2] [(1,V.tp (bJ a))] [] [] (qs ?_)
 obtain⟨x1,hx1,h⟩:=bd h
 refine rq hC [oV (dR G hx1)] [3,4,5] [(5,vB (!x1))] [] [] (aT h (fun c1 h=> ?_) (fun c1 h=> ?_))
 ·obtain rfl:=so h
  exact rq hC [] [2] [(2,vS [])] [] [] (qr eR)
 ·refine qk ?_
  obtain⟨x2,hx2,h⟩:=bd h
  obtain rfl:=so h
  exact rq hC [oV (wH G hx2)] [2,6,7] [(2,vS x2)] [] [] (qr eR)
theorem rR{text}{r}(h:lV n text=some r):PQ G 272 [vS text] (V.tup [V.agg (aQ r.1),vB r.2]):=by
 unfold lV at h
 refine pq aO Tryz.func272 rfl fun w X hC=> ?_
 refine rq hC [.z (.nat 20)] [2,3] [(2,V.ref 20 0)] [(20,sc [V.t T.nilS,vI 0])] [(20,true)] ?_
 obtain⟨x1,hx1,h⟩:=bd h
 refine rq hC [oC [] [21] (lT G n hx1),.z (.nat 22)] [4,6] [(4,V.ref 22 0)] [(21,some (ar 3 1 1 rI x1.coefs)),(22,sc [ms 21 1 1 rI x1.coefs,vI x1.const])] [(21,true),(22,true)] (qs (rq hC [] [7,8,9] [(9,vB (decide ((40:Int)<(text.length:Int))))] [] [] (aT h (fun c1 h=> ?_) (fun c1 h=> ?_))))
 ·obtain rfl:=so h
  exact rq hC [] [3,10] [(3,vB false)] [(20,sc [V.t T.nilS,vI 0])] [] (qr eR)
 ·refine qk (rq hC [] [5] [(5,vI 0)] [] [] (qs (qb (qw (lk hC [.fz 21 [] [22]] [] [] [(22,some (E.cells (aQ x1))),(21,none)] []) (jP h (fun x_=>aX [(0,vS text),(2,V.ref 20 0),(4,V.ref 22 0),(5,vI x_.2.2)] [(20,E.cells [V.t T.nilS,vI 0]),(22,E.cells [vM rI x_.1,vI x_.2.1])] [20,21,22]) lS ?_)))))
  rintro again5 ⟨x2,x3,x4⟩ h
  refine qs (vj h (fun x_=>aX [(0,vS text),(2,V.ref 20 0),(4,V.ref 22 0),(5,vI x4),(18,vB x_)] [(20,E.cells [V.t T.nilS,vI 0]),(22,E.cells [vM rI x2,vI x3])] [20,21,22]) (fun j6 h=> ?_) (fun x7 h=> ?_))
  ·
   refine aS h (fun c2 h=> ?_) (fun c2 h=> ?_)
   ·exact rk hC (rF 5 c2) (fr 11 8) [(18,vB false)] [] [] (lE h)
   ·exact rk hC (rT 5 c2) (fr 11 8) [(18,vB (decide (x4<(text.length:Int))))] [] [] (lE h)
  ·refine aT h (fun c3 h=> ?_) (fun c3 h=> ?_)
   ·refine qk (qb ?_)
    obtain⟨x8,hx8,h⟩:=bd h
    exact rk hC [oV (aCv G hx8)] [5,19,20,21,22,23,24,25] [(5,vI x8.2)] [(22,some (E.cells (aQ x8.1)))] [] (lE h)
   ·refine cM (qs ?_)
    obtain⟨x9,hx9,h⟩:=bd h
    refine rq hC [oV (B0 G hx9)] (fr 26 4) [(29,vB (!decide (x9=text)))] [] [] (aT h (fun c4 h=> ?_) (fun c4 h=> ?_))
    ·obtain rfl:=so h
     exact rq hC [] [3,30] [(3,vB false)] [(20,sc [V.t T.nilS,vI 0])] [] (qr eR)
    ·obtain rfl:=so h
     exact qk (rq hC [] [3,31] [(3,vB true)] [(20,sc [vM rI x2,vI x3])] [] (qr eR))
theorem mH{text}{r}(h:iR n text=some r):VQ G 245 [] [vS text] (ms 0 1 2 aB r) [ar 65 1 2 aB r]:=by
 unfold iR at h
 refine vq aO Tryz.func245 rfl fun w X β0 hC hg=> ?_
 refine rq hC [] [2] [] [] [] (rq hC [.z (.nat 20)] [3,8] [(3,ms 20 1 2 aB [])] [(20,some (ar 65 1 2 aB []))] [(20,true)] ?_)
 obtain⟨x1,hx1,h⟩:=bd h
 refine rq hC [oC [] [21] (wI G hx1)] [4,9,10] [(4,ms 21 1 1 rS x1)] [(21,some (ar 9 1 1 rS x1))] [(21,true)] (qs (rq hC [] [5] [(5,vI 0)] [] [] (qb (bA (γ:=Nat) h (fun x_ g_=>aX [(3,ms 20 g_ 2 aB x_.1),(4,ms 21 1 1 rS x1),(5,vI x_.2)] [(20,ar 65 g_ 2 aB x_.1),(21,ar 9 1 1 rS x1)] [20,21]) 1 (lS) ?_))))
 rintro again5 ⟨x2,x3⟩ g4 h
 refine qs (vj h (fun x_=>aX [(3,ms 20 g4 2 aB x2),(4,ms 21 1 1 rS x1),(5,vI x3),(18,vB x_)] [(20,ar 65 g4 2 aB x2),(21,ar 9 1 1 rS x1)] [20,21]) (fun j6 h=> ?_) (fun x7 h=> ?_))
 ·
  refine aS h (fun c1 h=> ?_) (fun c1 h=> ?_)
  ·exact rk hC ([oN rS x1]++rF 3 c1) (fr 11 8) [(18,vB false)] [] [] (lE h)
  ·exact rk hC ([oN rS x1]++rT 3 c1) (fr 11 8) [(18,vB (decide (x3≤2)))] [] [] (lE h)
 ·refine aT h (fun c2 h=> ?_) (fun c2 h=> ?_)
  ·refine qk (qs (qb ?_))
   obtain⟨x8,hx8,x9,hx9,h⟩:=cS h
   refine rq hC [oQ (iX rS hx8),oX rS hx8,oV (rR G hx9),.z (.nat 22)] [6,7,21,22,23,24,25,26,27,28] [(6,V.ref 22 0)] [(22,some (E.cells (aQ x9.1)))] [(22,true)] ?_
   obtain⟨x10,hx10,h⟩:=bd h
   exact rk hC [.z (.int 0),oA (aP aB hx10),oQ (bZ (r:=aB) 2 bC x2),oQ (bZ (r:=aB) 2 bC [x9.1])] [3,29,30,31,32] [(3,ms 20 (g4+1) 2 aB x10)] [(20,some (ar 65 (g4+1) 2 aB x10))] [] (rk hC [] [5,19,20] [(5,vI (wr (x3+1)))] [] [] ⟨(x10,wr (x3+1)),(g4+1),h,lS⟩)
  ·obtain rfl:=so h
   exact cM (rq hC [] [2,33] [(2,ms 20 g4 2 aB x2)] [] [] (qw (lk hC [.ren 2 20 0] [2] [(2,ms 0 1 2 aB x2)] [(0,some (ar 65 1 2 aB x2)),(20,none)] [(0,true)]) (qr eW)))
theorem aEf{line}{r}(h:J2 n line=some r):PQ G 205 [vS line] (V.agg (yN r)):=by
 unfold J2 at h
 refine pq aO Tryz.func205 rfl fun w X hC=> ?_
 refine rq hC [.z (.nat 20)] [2] [(2,V.ref 20 0)] [(20,sc [V.t T.nilS,V.t T.nilS])] [(20,true)] ?_
 obtain⟨x1,hx1,h⟩:=bd h
 refine rq hC [oC [] [21] (yG G hx1)] [3,4,5] [(3,ms 21 1 1 rS x1)] [(21,some (ar 9 1 1 rS x1))] [(21,true)] (qs (rq hC [oN rS x1] [6,7,8] [(8,vB (!decide ((x1.length:Int)=3)))] [] [] (aT h (fun c1 h=> ?_) (fun c1 h=> ?_))))
 ·obtain rfl:=so h
  exact rq hC [] [9] [] [(20,sc [V.t T.nilS,V.t T.nilS])] [] (qr eR)
 ·refine qk (qs ?_)
  obtain⟨x2,hx2,x3,hx3,x4,hx4,h⟩:=kY h
  obtain⟨x5,hx5,h⟩:=bd h
  obtain rfl:=so h
  exact dk hC bD [oQ (iX rS hx2),oX rS hx2,oC [] [22] (mH G hx3),oQ (iX rS hx4),oX rS hx4,oC [] [23] (mH G hx5)] (fr 10 9) [] [(22,some (ar 65 1 2 aB x3)),(23,some (ar 65 1 2 aB x5)),(20,sc [ms 22 1 2 aB x3,ms 23 1 2 aB x5])] [(22,true),(23,true)] (qw (lk hC [.fz 22 [] [20]] [] [] [(20,sc [vM aB x3,ms 23 1 2 aB x5]),(22,none)] []) (qw (lk hC [.fz 23 [] [20]] [] [] [(20,sc [vM aB x3,vM aB x5]),(23,none)] []) (qr eR)))
theorem n7{list}{r}(h:kD n list=some r):PQ G 249 [vM aB list] (vS r):=by
 unfold kD at h
 refine pq aO Tryz.func249 rfl fun w X hC=> ?_
 refine rq hC [] [2] [] [] [] (rq hC [] [3] [(3,vS [])] [] [] (qs (rq hC [] [4] [(4,vI 0)] [] [] (qb (jP h (fun x_=>aX [(0,vM aB list),(3,vS x_.1),(4,vI x_.2)] [] []) lS ?_)))))
 rintro again3 ⟨x1,x2⟩ h
 refine qs (rq hC [oN aB list] (fr 5 4) [(8,vB (decide (x2<(list.length:Int))))] [] [] (aT h (fun c1 h=> ?_) (fun c1 h=> ?_)))
 ·refine qk (qs (qb (vj h (fun x_=>aX [(0,vM aB list),(3,vS x_),(4,vI x2)] [] []) (fun j4 h=> ?_) (fun x6 h=> ?_))))
  ·
   refine rq hC [] [11,12] [(12,vB (decide ((0:Int)<x2)))] [] [] (aT h (fun c2 h=> ?_) (fun c2 h=> ?_))
   ·obtain⟨x5,hx5,h⟩:=bd h
    exact rk hC [oS hx5] [3,13,14] [(3,vS x5)] [] [] (lE h)
   ·exact qk (lE h)
  ·obtain⟨x7,hx7,x8,hx8,x9,hx9,h⟩:=kY h
   exact rk hC [oR aB hx7,oV (wH G hx8),oS hx9] [3,15,16,17,18,19,20,21] [(3,vS x9)] [] [] (rk hC [] [4,9,10] [(4,vI (wr (x2+1)))] [] [] (lE h))
 ·obtain rfl:=so h
  exact cM (rq hC [] [2,22] [(2,vS x1)] [] [] (qr eR))
theorem lR{a}{r}(h:gP n a=some r):PQ G 209 [V.agg (dH a)] (vS r):=by
 unfold gP at h
 refine pq aO Tryz.func209 rfl fun w X hC=> ?_
 refine rq hC [.z (.b (true))] [1,2] [(1,V.tp (eG a))] [] [] (qs ?_)
 obtain⟨x1,hx1,x2,hx2,x3,hx3,h⟩:=kY h
 obtain⟨x4,hx4,h⟩:=bd h
 obtain rfl:=so h
 exact dk hC bD [oS hx1,oV (n7 G hx2),oS hx3,oS hx4] (fr 2 9) [(2,vS x4)] [] [] (qr eR)
theorem P7(G:GS): ∀(n:Nat) (e:Expr) {r:(List UInt8)} (h:s_l3Text n e=some r),PQ G 210 [V.agg (fM e)] (vS r):=by
 intro n
 induction n with
 |zero=>intro e r h;rw [s_l3Text.eq_def] at h;cases h
 |succ n ih=>
  intro e r h
  rw [s_l3Text.eq_def] at h;dsimp only at h
  refine pq aO Tryz.func210 rfl fun w X hC=> ?_
  refine rq hC [.z (.b (true))] [1,2] [(1,V.tp (iK e))] [] [] (qs (rq hC [] [3,4] [(4,vI e.kind)] [] [] (qb (rq hC [] [5,6] [(5,vB (decide (e.kind=1)))] [] [] (aT h (fun c1 h=> ?_) (fun c1 h=> ?_))))))
  ·obtain⟨x1,hx1,h⟩:=bd h
   obtain rfl:=so h
   exact rq hC [oV (rK G n e.num hx1)] [2,7,8,9] [(2,vS x1)] [] [] (qr eR)
  ·refine rq hC [] [10,11] [(10,vB (decide (e.kind=2)))] [] [] (aT h (fun c2 h=> ?_) (fun c2 h=> ?_))
   ·obtain⟨x2,hx2,x3,hx3,x4,hx4,h⟩:=kY h
    obtain rfl:=so h
    exact rq hC [oV (wH G hx2),oS hx3,oS hx4] [2,12,13,14,15,16] [(2,vS x4)] [] [] (qr eR)
   ·refine rq hC [] [17,18] [(17,vB (decide (e.kind=3)))] [] [] (aT h (fun c3 h=> ?_) (fun c3 h=> ?_))
    ·obtain⟨x5,hx5,h⟩:=bd h
     obtain rfl:=so h
     exact rq hC [oV (lR G hx5)] [2,19,20,21] [(2,vS x5)] [] [] (qr eR)
    ·refine qk (qs ?_)
     obtain⟨x6,hx6,x7,hx7,x8,hx8,h⟩:=kY h
     obtain⟨x9,hx9,x10,hx10,x11,hx11,h⟩:=kY h
     obtain⟨x12,hx12,x13,hx13,x14,hx14,h⟩:=kY h
     obtain rfl:=so h
     exact dk hC bD [.z (.row (fU x6)),oQ (jG aM hx6 (eA x6)),oV (ih x6 hx7),oS hx8,oS hx9,oS hx10,.z (.row (fU x11)),oQ (jG aM hx11 (eA x11)),oV (ih x11 hx12),oS hx13,oS hx14] [2,22,23,24,25,26,27,28,29,30,31,32,33,34,35,36,37,38,39,40,41,42,43] [(2,vS x14)] [] [] (qr eR)
theorem aCt(G:GS): ∀(n:Nat) (e:Expr) (levels:Int) {r:Int} (h:s_l3Count n e levels=some r),PQ G 216 [V.agg (fM e),vI levels] (vI r):=by
 intro n
 induction n with
 |zero=>intro e levels r h;rw [s_l3Count.eq_def] at h;cases h
 |succ n ih=>
  intro e levels r h
  rw [s_l3Count.eq_def] at h;dsimp only at h
  refine pq aO Tryz.func216 rfl fun w X hC=> ?_
  refine rq hC [.z (.b (true))] [2,4] [(2,V.tp (iK e))] [] [] (rq hC [] [5] [(5,vI 1)] [] [] (qs (rq hC [] [6] [(6,vI 0)] [] [] (qb (jP h (fun x_=>aX [(1,vI levels),(2,V.tp (iK e)),(5,vI x_.1),(6,vI x_.2)] [] []) lS ?_)))))
  rintro again3 ⟨x1,x2⟩ h
  refine qs (vj h (fun x_=>aX [(1,vI levels),(2,V.tp (iK e)),(5,vI x1),(6,vI x2),(15,vB x_)] [] []) (fun j4 h=> ?_) (fun x5 h=> ?_))
  ·
   refine aS h (fun c1 h=> ?_) (fun c1 h=> ?_)
   ·exact rk hC ([oN aM e.kids]++rF 3 c1) (fr 7 9) [(15,vB false)] [] [] (lE h)
   ·exact rk hC ([oN aM e.kids]++rT 3 c1) (fr 7 9) [(15,vB (decide ((0:Int)<levels)))] [] [] (lE h)
  ·refine aT h (fun c2 h=> ?_) (fun c2 h=> ?_)
   ·refine qk (qs (qb ?_))
    obtain⟨x6,hx6,x7,hx7,h⟩:=cS h
    exact rk hC [.z (.row (fU x6)),oQ (jG aM hx6 (eA x6)),oV (ih x6 (wr (levels-1)) hx7)] [5,18,19,20,21,22,23,24,25,26,27] [(5,vI (wr (x1+x7)))] [] [] (rk hC [] [6,16,17] [(6,vI (wr (x2+1)))] [] [] (lE h))
   ·obtain rfl:=so h
    exact cM (rq hC [] [4,28] [(4,vI x1)] [] [] (qr eR))
theorem tQ{a}{r}(h:lF n a=some r):PQ G 254 [V.agg (aQ a)] (vI r):=by
 unfold lF at h
 refine pq aO Tryz.func254 rfl fun w X hC=> ?_
 refine rq hC [.z (.b (true))] [1,2] [(1,V.tp (bJ a))] [] [] (rq hC [] [3] [(3,vI 0)] [] [] (qs (rq hC [] [4] [(4,vI 0)] [] [] (qb (jP h (fun x_=>aX [(1,V.tp (bJ a)),(3,vI x_.1),(4,vI x_.2)] [] []) lS ?_)))))
 rintro again3 ⟨x1,x2⟩ h
 refine qs (rq hC [oN rI a.coefs] (fr 5 5) [(9,vB (decide (x2<(a.coefs.length:Int))))] [] [] (aT h (fun c1 h=> ?_) (fun c1 h=> ?_)))
 ·refine qk (vj h (fun x_=>aX [(1,V.tp (bJ a)),(3,vI x_),(4,vI x2)] [] []) (fun j4 h=> ?_) (fun x6 h=> ?_))
  ·
   refine qb ?_
   obtain⟨x5,hx5,h⟩:=bd h
   refine rq hC [oR rI hx5] (fr 12 6) [(17,vB (!decide (x5=0)))] [] [] (aT h (fun c2 h=> ?_) (fun c2 h=> ?_))
   ·exact rk hC [] [3,18,19] [(3,vI (wr (x2+1)))] [] [] (lE h)
   ·exact qk (lE h)
  ·exact rk hC [] [4,10,11] [(4,vI (wr (x2+1)))] [] [] (lE h)
 ·obtain rfl:=so h
  exact cM (rq hC [] [2,20] [(2,vI x1)] [] [] (qr eR))
theorem rG{a}{depth}{r}(h:lD n a depth=some r):PQ G 214 [V.agg (dH a),vI depth] (vB r):=by
 unfold lD at h
 refine pq aO Tryz.func214 rfl fun w X hC=> ?_
 refine rq hC [.z (.b (true))] [2,4] [(2,V.tp (eG a))] [] [] (qs (rq hC [] [5] [(5,vI 0)] [] [] (qb (jP h (fun x_=>aX [(1,vI depth),(2,V.tp (eG a)),(5,vI x_)] [] []) lS ?_))))
 rintro again2 x1 h
 refine qs (rq hC [oN aB a.subs] (fr 6 5) [(10,vB (decide (x1<(a.subs.length:Int))))] [] [] (aT h (fun c1 h=> ?_) (fun c1 h=> ?_)))
 ·refine qk (qs (qb (vj h (fun x_=>aX [(1,vI depth),(2,V.tp (eG a)),(5,vI x1),(29,vB x_)] [] []) (fun j3 h=> ?_) (fun x7 h=> ?_))))
  ·
   obtain⟨x4,hx4,x5,hx5,h⟩:=cS h
   refine aS h (fun c2 h=> ?_) (fun c2 h=> ?_)
   ·obtain⟨x6,hx6,h⟩:=bd h
    exact rk hC ([oR aB hx4,oV (dR G hx5)]++rF 4 c2++[oR aB hx4,oF c2,oF c2,oV (tQ G hx6)]++rF 3 c2) (fr 13 17) [(29,vB (decide (depth<x6)))] [] [] (lE h)
   ·exact rk hC ([oR aB hx4,oV (dR G hx5)]++rT 9 c2) (fr 13 17) [(29,vB true)] [] [] (lE h)
  ·refine aT h (fun c3 h=> ?_) (fun c3 h=> ?_)
   ·obtain rfl:=so h
    exact rq hC [] [4] [(4,vB false)] [] [] (qr eR)
   ·exact qk (rk hC [] [5,11,12] [(5,vI (wr (x1+1)))] [] [] (lE h))
 ·refine cM (vj h (fun x_=>aX [(4,vB x_)] [] []) (fun j8 h=> ?_) (fun x9 h=> ?_))
  ·
   refine aS h (fun c4 h=> ?_) (fun c4 h=> ?_)
   ·exact rk hC (rF 4 c4++sF 14) [4,30,31,32,33,34,35,36,37,38,39,40,41,42,43,44,45,46,47,48,49,50,51,52,53,54,55] [(4,vB false)] [] [] (lE h)
   ·refine aS h (fun c5 h=> ?_) (fun c5 h=> ?_)
    ·exact rk hC (rT 4 c4++rF 4 c5++sF 10) [4,30,31,32,33,34,35,36,37,38,39,40,41,42,43,44,45,46,47,48,49,50,51,52,53,54,55] [(4,vB false)] [] [] (lE h)
    ·refine aS h (fun c6 h=> ?_) (fun c6 h=> ?_)
     ·exact rk hC (rT 4 c4++rT 4 c5++rF 5 c6++sF 5) [4,30,31,32,33,34,35,36,37,38,39,40,41,42,43,44,45,46,47,48,49,50,51,52,53,54,55] [(4,vB false)] [] [] (lE h)
     ·refine aS h (fun c7 h=> ?_) (fun c7 h=> ?_)
      ·exact rk hC (rT 4 c4++rT 4 c5++rT 3 c6++[oN aB a.subs,oT c6,oT c6]++rF 5 c7) [4,30,31,32,33,34,35,36,37,38,39,40,41,42,43,44,45,46,47,48,49,50,51,52,53,54,55] [(4,vB false)] [] [] (lE h)
      ·exact rk hC (rT 4 c4++rT 4 c5++rT 3 c6++[oN aB a.subs,oT c6,oT c6]++rT 3 c7++[oN aB a.subs,oT c7,oT c7]) [4,30,31,32,33,34,35,36,37,38,39,40,41,42,43,44,45,46,47,48,49,50,51,52,53,54,55] [(4,vB (decide ((a.subs.length:Int)≤2)))] [] [] (lE h)
  ·obtain rfl:=so h
   exact qr eR
theorem mD{a}{r}(h:lC n a=some r):PQ G 277 [V.agg (dH a)] (vB r):=by
 unfold lC at h
 refine pq aO Tryz.func277 rfl fun w X hC=> ?_
 refine rq hC [.z (.b (true))] [1,2] [(1,V.tp (eG a))] [] [] (vj h (fun x_=>aX [(2,vB x_)] [] []) (fun j1 h=> ?_) (fun x2 h=> ?_))
 ·
  refine aS h (fun c1 h=> ?_) (fun c1 h=> ?_)
  ·exact rk hC (rF 5 c1) (fr 2 10) [(2,vB false)] [] [] (lE h)
  ·exact rk hC (rT 3 c1++[oN aB a.subs,oT c1,oT c1]) (fr 2 10) [(2,vB (decide ((a.subs.length:Int)=0)))] [] [] (lE h)
 ·obtain rfl:=so h
  exact qr eR
theorem lP{a}{r}(h:nL n a=some r):PQ G 278 [V.agg (aQ a)] (vB r):=by
 unfold nL at h
 refine pq aO Tryz.func278 rfl fun w X hC=> ?_
 refine rq hC [.z (.b (true))] [1,2] [(1,V.tp (bJ a))] [] [] (vj h (fun x_=>aX [(2,vB x_)] [] []) (fun j1 h=> ?_) (fun x2 h=> ?_))
 ·
  refine aS h (fun c1 h=> ?_) (fun c1 h=> ?_)
  ·exact rk hC ([oN rI a.coefs]++rF 4 c1) (fr 2 10) [(2,vB false)] [] [] (lE h)
  ·exact rk hC ([oN rI a.coefs]++rT 4 c1) (fr 2 10) [(2,vB (decide (a.const=0)))] [] [] (lE h)
 ·obtain rfl:=so h
  exact qr eR
theorem aF2{e}{depth}{r}(h:w4 n e depth=some r):PQ G 256 [V.agg (fM e),vI depth] (vB r):=by
 unfold w4 at h
 refine pq aO Tryz.func256 rfl fun w X hC=> ?_
 refine rq hC [.z (.b (true))] [2,4] [(2,V.tp (iK e))] [] [] (qs (rq hC [] [5,6,7] [(7,vB (decide (e.kind=2)))] [] [] (aT h (fun c1 h=> ?_) (fun c1 h=> ?_))))
 ·refine vj h (fun x_=>aX [(4,vB x_)] [] []) (fun j1 h=> ?_) (fun x5 h=> ?_)
  ·
   refine aS h (fun c2 h=> ?_) (fun c2 h=> ?_)
   ·exact rk hC (rF 4 c2++sF 10) [4,8,9,10,11,12,13,14,15,16,17,18,19,20,21,22,23,24,25,26,27] [(4,vB false)] [] [] (lE h)
   ·obtain⟨x2,hx2,h⟩:=bd h
    refine aS h (fun c3 h=> ?_) (fun c3 h=> ?_)
    ·exact rk hC (rT 3 c2++[oV (mD G hx2),oT c2]++rF 4 c3++sF 6) [4,8,9,10,11,12,13,14,15,16,17,18,19,20,21,22,23,24,25,26,27] [(4,vB false)] [] [] (lE h)
    ·obtain⟨x3,hx3,h⟩:=bd h
     refine aS h (fun c4 h=> ?_) (fun c4 h=> ?_)
     ·exact rk hC (rT 3 c2++[oV (mD G hx2),oT c2]++rT 3 c3++[oV (dR G hx3),oT c3]++rF 6 c4) [4,8,9,10,11,12,13,14,15,16,17,18,19,20,21,22,23,24,25,26,27] [(4,vB false)] [] [] (lE h)
     ·obtain⟨x4,hx4,h⟩:=bd h
      exact rk hC (rT 3 c2++[oV (mD G hx2),oT c2]++rT 3 c3++[oV (dR G hx3),oT c3]++rT 3 c4++[oV (tQ G hx4)]++rT 3 c4) [4,8,9,10,11,12,13,14,15,16,17,18,19,20,21,22,23,24,25,26,27] [(4,vB (decide (x4≤depth)))] [] [] (lE h)
  ·obtain rfl:=so h
   exact qr eR
 ·refine qk (qs (rq hC [] [28,29,30] [(30,vB (decide (e.kind=3)))] [] [] (aT h (fun c5 h=> ?_) (fun c5 h=> ?_))))
  ·refine vj h (fun x_=>aX [(4,vB x_)] [] []) (fun j6 h=> ?_) (fun x9 h=> ?_)
   ·
    refine aS h (fun c6 h=> ?_) (fun c6 h=> ?_)
    ·exact rk hC (rF 4 c6++sF 5) [4,31,32,33,34,35,36,37,38,39,40,41,42,43,44] [(4,vB false)] [] [] (lE h)
    ·obtain⟨x7,hx7,h⟩:=bd h
     refine aS h (fun c7 h=> ?_) (fun c7 h=> ?_)
     ·exact rk hC (rT 3 c6++[oV (lP G hx7),oT c6]++rF 5 c7) [4,31,32,33,34,35,36,37,38,39,40,41,42,43,44] [(4,vB false)] [] [] (lE h)
     ·obtain⟨x8,hx8,h⟩:=bd h
      exact rk hC (rT 3 c6++[oV (lP G hx7),oT c6]++rT 4 c7++[oV (rG G hx8),oT c7]) [4,31,32,33,34,35,36,37,38,39,40,41,42,43,44] [(4,vB x8)] [] [] (lE h)
   ·obtain rfl:=so h
    exact qr eR
  ·refine qk (qs (rq hC [] [45,46,47] [(47,vB (decide (e.kind=1)))] [] [] (aT h (fun c8 h=> ?_) (fun c8 h=> ?_))))
   ·refine vj h (fun x_=>aX [(4,vB x_)] [] []) (fun j10 h=> ?_) (fun x13 h=> ?_)
    ·
     refine aS h (fun c9 h=> ?_) (fun c9 h=> ?_)
     ·exact rk hC (rF 4 c9++sF 8) [4,48,49,50,51,52,53,54,55,56,57,58,59,60,61,62,63,64,65] [(4,vB false)] [] [] (lE h)
     ·refine aS h (fun c10 h=> ?_) (fun c10 h=> ?_)
      ·exact rk hC (rT 4 c9++rF 4 c10++sF 4) [4,48,49,50,51,52,53,54,55,56,57,58,59,60,61,62,63,64,65] [(4,vB false)] [] [] (lE h)
      ·obtain⟨x11,hx11,h⟩:=bd h
       refine aS h (fun c11 h=> ?_) (fun c11 h=> ?_)
       ·exact rk hC (rT 4 c9++rT 3 c10++[oV (lP G hx11),oT c10]++rF 4 c11) [4,48,49,50,51,52,53,54,55,56,57,58,59,60,61,62,63,64,65] [(4,vB false)] [] [] (lE h)
       ·obtain⟨x12,hx12,h⟩:=bd h
        exact rk hC (rT 4 c9++rT 3 c10++[oV (lP G hx11),oT c10]++rT 3 c11++[oV (mD G hx12),oT c11]) [4,48,49,50,51,52,53,54,55,56,57,58,59,60,61,62,63,64,65] [(4,vB x12)] [] [] (lE h)
    ·obtain rfl:=so h
     exact qr eR
   ·refine qk (vj h (fun x_=>aX [(4,vB x_)] [] []) (fun j14 h=> ?_) (fun x17 h=> ?_))
    ·
     refine aS h (fun c12 h=> ?_) (fun c12 h=> ?_)
     ·exact rk hC (rF 4 c12++sF 4) [4,66,67,68,69,70,71,72,73,74,75,76,77,78] [(4,vB false)] [] [] (lE h)
     ·obtain⟨x15,hx15,h⟩:=bd h
      refine aS h (fun c13 h=> ?_) (fun c13 h=> ?_)
      ·exact rk hC (rT 3 c12++[oV (lP G hx15),oT c12]++rF 4 c13) [4,66,67,68,69,70,71,72,73,74,75,76,77,78] [(4,vB false)] [] [] (lE h)
      ·obtain⟨x16,hx16,h⟩:=bd h
       exact rk hC (rT 3 c12++[oV (lP G hx15),oT c12]++rT 3 c13++[oV (mD G hx16),oT c13]) [4,66,67,68,69,70,71,72,73,74,75,76,77,78] [(4,vB x16)] [] [] (lE h)
    ·obtain rfl:=so h
     exact qr eR
theorem P8{kind}{r}(h:sV n kind=some r):PQ G 255 [vI kind] (vI r):=by
 unfold sV at h
 refine pq aO Tryz.func255 rfl fun w X hC=> ?_
 refine rq hC [] [2] [] [] [] (qs (rq hC [] [3] [(3,vI kind)] [] [] (qb (vj h (fun x_=>aX [(3,vI kind),(4,vB x_)] [] []) (fun j1 h=> ?_) (fun x2 h=> ?_)))))
 ·
  refine rq hC [] [4,5] [(4,vB (decide (kind=1)))] [] [] (aT h (fun c1 h=> ?_) (fun c1 h=> ?_))
  ·exact qk (lE h)
  ·refine rq hC [] [4,6] [(4,vB (decide (kind=2)))] [] [] (aT h (fun c2 h=> ?_) (fun c2 h=> ?_))
   ·exact qk (lE h)
   ·exact rk hC [] [4,7] [(4,vB (decide (kind=3)))] [] [] (lE h)
 ·refine aT h (fun c3 h=> ?_) (fun c3 h=> ?_)
  ·obtain rfl:=so h
   exact rq hC [] [2] [(2,vI 0)] [] [] (qr eR)
  ·refine vj h (fun x_=>aX [(8,vB x_)] [] []) (fun j3 h=> ?_) (fun x4 h=> ?_)
   ·
    refine rq hC [] [8,9] [(8,vB (decide (kind=4)))] [] [] (aT h (fun c4 h=> ?_) (fun c4 h=> ?_))
    ·exact qk (lE h)
    ·refine rq hC [] [8,10] [(8,vB (decide (kind=5)))] [] [] (aT h (fun c5 h=> ?_) (fun c5 h=> ?_))
     ·exact qk (lE h)
     ·exact rk hC [] [8,11] [(8,vB (decide (kind=6)))] [] [] (lE h)
   ·refine aT h (fun c6 h=> ?_) (fun c6 h=> ?_)
    ·obtain rfl:=so h
     exact rq hC [] [2] [(2,vI 2)] [] [] (qr eR)
    ·obtain rfl:=so h
     exact qk (rq hC [] [2] [(2,vI (-1))] [] [] (qr eR))
theorem aCp(G:GS): ∀(n:Nat) (e:Expr) (depth:Int) (levels:Int) {r:Bool} (h:s_l3Shape n e depth levels=some r),PQ G 215 [V.agg (fM e),vI depth,vI levels] (vB r):=by
 intro n
 induction n with
 |zero=>intro e depth levels r h;rw [s_l3Shape.eq_def] at h;cases h
 |succ n ih=>
  intro e depth levels r h
  rw [s_l3Shape.eq_def] at h;dsimp only at h
  refine pq aO Tryz.func215 rfl fun w X hC=> ?_
  refine rq hC [.z (.b (true))] [3,6] [(3,V.tp (iK e))] [] [] (qs (vj h (fun x_=>aX [(1,vI depth),(2,vI levels),(3,V.tp (iK e)),(24,vB x_)] [] []) (fun j1 h=> ?_) (fun x4 h=> ?_)))
  ·
   refine aS h (fun c1 h=> ?_) (fun c1 h=> ?_)
   ·obtain⟨x2,hx2,h⟩:=bd h
    refine aS h (fun c2 h=> ?_) (fun c2 h=> ?_)
    ·obtain⟨x3,hx3,h⟩:=bd h
     exact dk hC bD (rF 3 c1++[oV (P8 G hx2)]++rF 3 c1++[oN aM e.kids,oF c1,oF c1]++rF 3 c2++[oV (aF2 G hx3),oF c2,oF c2]) (fr 8 17) [(24,vB (!x3))] [] [] (lE h)
    ·exact dk hC bD (rF 3 c1++[oV (P8 G hx2)]++rF 3 c1++[oN aM e.kids,oF c1,oF c1]++rT 5 c2) (fr 8 17) [(24,vB true)] [] [] (lE h)
   ·exact dk hC bD (rT 8 c1++sT 5) (fr 8 17) [(24,vB true)] [] [] (lE h)
  ·refine aT h (fun c3 h=> ?_) (fun c3 h=> ?_)
   ·obtain rfl:=so h
    exact rq hC [] [6] [(6,vB false)] [] [] (qr eR)
   ·refine qk (qs (rq hC [] [7] [(7,vI 0)] [] [] (qb (jP h (fun x_=>aX [(1,vI depth),(2,vI levels),(3,V.tp (iK e)),(7,vI x_)] [] []) lS ?_))))
    rintro again6 x5 h
    refine qs (rq hC [oN aM e.kids] (fr 25 5) [(29,vB (decide (x5<(e.kids.length:Int))))] [] [] (aT h (fun c4 h=> ?_) (fun c4 h=> ?_)))
    ·refine qk (qs (qb ?_))
     obtain⟨x7,hx7,x8,hx8,h⟩:=cS h
     refine rq hC [.z (.row (fU x7)),oQ (jG aM hx7 (eA x7)),oV (ih x7 depth (wr (levels-1)) hx8)] (fr 32 10) [(41,vB (!x8))] [] [] (aT h (fun c5 h=> ?_) (fun c5 h=> ?_))
     ·obtain rfl:=so h
      exact rq hC [] [6] [(6,vB false)] [] [] (qr eR)
     ·exact qk (rk hC [] [7,30,31] [(7,vI (wr (x5+1)))] [] [] (lE h))
    ·obtain rfl:=so h
     exact cM (rq hC [] [6] [(6,vB true)] [] [] (qr eR))
theorem o6{s}{depth}{r}(h:gR n s depth=some r):PQ G 158 [V.agg (d4 s),vI depth] (vB r):=by
 unfold gR at h
 refine pq aO Tryz.func158 rfl fun w X hC=> ?_
 refine rq hC [.z (.b (true))] [2,4] [(2,V.tp (pB s))] [] [] (qs (vj h (fun x_=>aX [(2,V.tp (pB s)),(24,vB x_)] [] []) (fun j1 h=> ?_) (fun x4 h=> ?_)))
 ·
  refine aS h (fun c1 h=> ?_) (fun c1 h=> ?_)
  ·refine aS h (fun c2 h=> ?_) (fun c2 h=> ?_)
   ·obtain⟨x2,hx2,h⟩:=bd h
    refine aS h (fun c3 h=> ?_) (fun c3 h=> ?_)
    ·obtain⟨x3,hx3,h⟩:=bd h
     exact rk hC (rF 3 c1++rF 4 c2++[oV (rG G hx2),oF c2,oF c2]++rF 4 c3++[oV (aCp G n s.value depth 5 hx3),oF c3,oF c3]) (fr 5 20) [(24,vB (!x3))] [] [] (lE h)
    ·exact rk hC (rF 3 c1++rF 4 c2++[oV (rG G hx2),oF c2,oF c2]++rT 6 c3) (fr 5 20) [(24,vB true)] [] [] (lE h)
   ·exact rk hC (rF 3 c1++rT 6 c2++sT 6) (fr 5 20) [(24,vB true)] [] [] (lE h)
  ·exact rk hC (rT 3 c1++sT 12) (fr 5 20) [(24,vB true)] [] [] (lE h)
 ·refine aT h (fun c4 h=> ?_) (fun c4 h=> ?_)
  ·obtain rfl:=so h
   exact rq hC [] [4] [(4,vB false)] [] [] (qr eR)
  ·refine qk ?_
   obtain⟨x5,hx5,h⟩:=bd h
   obtain rfl:=so h
   exact rq hC [oV (aCt G n s.value 5 hx5)] [4,25,26,27,28] [(4,vB (decide (x5≤12)))] [] [] (qr eR)
theorem Q7{s}{r}(h:qO n s=some r):PQ G 248 [V.agg (d4 s)] (vS r):=by
 unfold qO at h
 refine pq aO Tryz.func248 rfl fun w X hC=> ?_
 refine rq hC [.z (.b (true))] [1,2] [(1,V.tp (pB s))] [] [] (qs ?_)
 obtain⟨x1,hx1,h⟩:=bd h
 refine rq hC [oV (o6 G hx1)] [3,4,5] [(5,vB (!x1))] [] [] (aT h (fun c1 h=> ?_) (fun c1 h=> ?_))
 ·obtain rfl:=so h
  exact rq hC [] [2] [(2,vS [])] [] [] (qr eR)
 ·refine qk (qs ?_)
  obtain⟨x2,hx2,x3,hx3,x4,hx4,h⟩:=kY h
  obtain⟨x5,hx5,h⟩:=bd h
  obtain rfl:=so h
  exact dk hC bD [oV (lR G hx2),oS hx3,oV (P7 G n s.value hx4),oS hx5] [2,6,7,8,9,10,11,12,13] [(2,vS x5)] [] [] (qr eR)
theorem D7{s}{at_a1}{end_a2}{r}(h:uB n s at_a1 end_a2=some r):PQ G 273 [vS s,vI at_a1,vY end_a2] (vI r):=by
 unfold uB at h
 refine pq aO Tryz.func273 rfl fun w X hC=> ?_
 refine rq hC [] [6] [] [] [] (qs (rq hC [] [7,8] [(7,vI at_a1)] [] [] (qb (jP h (fun x_=>aX [(0,vS s),(2,vY end_a2),(7,vI x_)] [] []) lS ?_))))
 rintro again2 x1 h
 refine qs (rq hC [] (fr 9 4) [(12,vB (decide (x1<(s.length:Int))))] [] [] (aT h (fun c1 h=> ?_) (fun c1 h=> ?_)))
 ·refine qk (qs (qb ?_))
  obtain⟨x3,hx3,h⟩:=bd h
  refine rq hC [oY hx3] (fr 15 5) [(19,vB (decide ((x3.toNat:Int)=(end_a2.toNat:Int))))] [] [] (aT h (fun c2 h=> ?_) (fun c2 h=> ?_))
  ·obtain rfl:=so h
   exact rq hC [] [6,20] [(6,vI x1)] [] [] (qr eR)
  ·exact qk (rk hC [] [7,13,14] [(7,vI (wr (x1+1)))] [] [] (lE h))
 ·obtain rfl:=so h
  exact cM (rq hC [] [6] [(6,vI (-1))] [] [] (qr eR))
theorem oM{s}{at_a1}{r}(h:jD n s at_a1=some r):PQ G 246 [vS s,vI at_a1] (V.tup [V.agg (dH r.1),vI r.2]):=by
 unfold jD at h
 refine pq aO Tryz.func246 rfl fun w X hC=> ?_
 refine rq hC [.z (.nat 20)] [4,5] [(4,V.ref 20 0)] [(20,sc [vS [],V.t T.nilS])] [(20,true)] ?_
 obtain⟨x1,hx1,h⟩:=bd h
 refine rq hC [oV (D7 G hx1)] (fr 6 4) [(6,vI x1)] [] [] (qs (vj h (fun x_=>aX [(0,vS s),(1,vI at_a1),(4,V.ref 20 0),(6,vI x1),(20,vB x_)] [(20,E.cells [vS [],V.t T.nilS])] [20]) (fun j2 h=> ?_) (fun x4 h=> ?_)))
 ·
  refine aS h (fun c1 h=> ?_) (fun c1 h=> ?_)
  ·obtain⟨x3,hx3,h⟩:=bd h
   exact rk hC (rF 4 c1++[oY hx3,oF c1,oF c1]) (fr 10 11) [(20,vB (!decide ((x3.toNat:Int)=91)))] [] [] (lE h)
  ·exact rk hC (rT 6 c1) (fr 10 11) [(20,vB true)] [] [] (lE h)
 ·refine aT h (fun c2 h=> ?_) (fun c2 h=> ?_)
  ·obtain rfl:=so h
   exact rq hC [] [5,21] [(5,vI (-1))] [(20,sc [vS [],V.t T.nilS])] [] (qr eR)
  ·refine qk (qs ?_)
   obtain⟨x5,hx5,x6,hx6,x7,hx7,h⟩:=kY h
   obtain rfl:=so h
   exact dk hC bD [oS hx5,oS hx6,oC [] [21] (mH G hx7)] [5,22,23,24,25,26,27,28,29,30,31,32,33,34,35] [(5,vI (wr (x1+1)))] [(21,some (ar 65 1 2 aB x7)),(20,sc [vS x5,ms 21 1 2 aB x7])] [(21,true)] (qw (lk hC [.fz 21 [] [20]] [] [] [(20,sc [vS x5,vM aB x7]),(21,none)] []) (qr eR))
theorem aCq(G:GS)(n:Nat)(self:(List UInt8)→Int→Int→Option (Expr×Int))(hself: ∀(q0:List UInt8) (q1:Int) (q2:Int) {r:Expr×Int},self q0 q1 q2=some r→PQ G 247 [vS q0,vI q1,vI q2] (V.tup [V.agg (fM r.1),vI r.2]))(s:List UInt8)(at_a1:Int)(levels:Int){r:Expr×Int}(h:y7 n self s at_a1 levels=some r):PQ G 274 [vS s,vI at_a1,vI levels] (V.tup [V.agg (fM r.1),vI r.2]):=by
 unfold y7 at h
 refine pq aO Tryz.func274 rfl fun w X hC=> ?_
 refine rq hC [.z (.nat 20)] [6,7] [(6,V.ref 20 0)] [(20,sc [vI 0,vI 0,V.t T.nilS,vI 0,vS [],V.t T.nilS,V.t T.nilS])] [(20,true)] ?_
 obtain⟨x1,hx1,h⟩:=bd h
 refine rq hC [oV (hself s at_a1 levels hx1),.z (.nat 21)] [8,9,13,14,15,16,17,18,19] [(8,V.ref 21 0),(9,vI x1.2)] [(21,some (E.cells (fM x1.1)))] [(21,true)] (qs (vj h (fun x_=>aX [(0,vS s),(2,vI levels),(6,V.ref 20 0),(8,V.ref 21 0),(9,vI x1.2),(27,vB x_)] [(20,E.cells [vI 0,vI 0,V.t T.nilS,vI 0,vS [],V.t T.nilS,V.t T.nilS]),(21,E.cells (fM x1.1))] [20,21]) (fun j2 h=> ?_) (fun x3 h=> ?_)))
 ·
  refine aS h (fun c1 h=> ?_) (fun c1 h=> ?_)
  ·exact rk hC (rF 5 c1) (fr 20 8) [(27,vB (decide ((s.length:Int)≤x1.2)))] [] [] (lE h)
  ·exact rk hC (rT 5 c1) (fr 20 8) [(27,vB true)] [] [] (lE h)
 ·refine aT h (fun c2 h=> ?_) (fun c2 h=> ?_)
  ·obtain rfl:=so h
   exact rq hC [] [7,28] [(7,vI (-1))] [(20,sc [vI 0,vI 0,V.t T.nilS,vI 0,vS [],V.t T.nilS,V.t T.nilS])] [] (qr eR)
  ·refine qk (rq hC [] [10] [(10,vI 4)] [] [] (vj h (fun x_=>aX [(0,vS s),(2,vI levels),(6,V.ref 20 0),(8,V.ref 21 0),(9,vI x1.2),(10,vI x_)] [(20,E.cells [vI 0,vI 0,V.t T.nilS,vI 0,vS [],V.t T.nilS,V.t T.nilS]),(21,E.cells (fM x1.1))] [20,21]) (fun j4 h=> ?_) (fun x6 h=> ?_)))
   ·
    obtain⟨x5,hx5,h⟩:=bd h
    refine rq hC [oY hx5] [29,30,31] [(31,vY x5)] [] [] (qb (rq hC [] [32,33] [(32,vB (decide ((x5.toNat:Int)=45)))] [] [] (aT h (fun c3 h=> ?_) (fun c3 h=> ?_))))
    ·exact rk hC [] [10] [(10,vI 5)] [] [] (lE h)
    ·refine rq hC [] [34,35] [(34,vB (decide ((x5.toNat:Int)=42)))] [] [] (aT h (fun c4 h=> ?_) (fun c4 h=> ?_))
     ·exact rk hC [] [10] [(10,vI 6)] [] [] (lE h)
     ·exact qk (lE h)
   ·obtain⟨x7,hx7,h⟩:=bd h
    refine rq hC [oV (hself s (wr (x1.2+1)) levels hx7),.z (.nat 22)] [11,12,36,37,38,39,40,41,42,43] [(11,V.ref 22 0),(12,vI x7.2)] [(22,some (E.cells (fM x7.1)))] [(22,true)] (qs (vj h (fun x_=>aX [(6,V.ref 20 0),(8,V.ref 21 0),(10,vI x6),(11,V.ref 22 0),(12,vI x7.2),(51,vB x_)] [(20,E.cells [vI 0,vI 0,V.t T.nilS,vI 0,vS [],V.t T.nilS,V.t T.nilS]),(21,E.cells (fM x1.1)),(22,E.cells (fM x7.1))] [20,21,22]) (fun j8 h=> ?_) (fun x9 h=> ?_)))
    ·
     refine aS h (fun c5 h=> ?_) (fun c5 h=> ?_)
     ·exact rk hC (rF 5 c5) (fr 44 8) [(51,vB (decide ((s.length:Int)≤x7.2)))] [] [] (lE h)
     ·exact rk hC (rT 5 c5) (fr 44 8) [(51,vB true)] [] [] (lE h)
    ·refine aT h (fun c6 h=> ?_) (fun c6 h=> ?_)
     ·obtain rfl:=so h
      exact rq hC [] [7,52] [(7,vI (-1))] [(20,sc [vI 0,vI 0,V.t T.nilS,vI 0,vS [],V.t T.nilS,V.t T.nilS])] [] (qr eR)
     ·obtain rfl:=so h
      exact qk (rq hC [.z (.int 2),.z (.rows (List.map aM [x1.1,x7.1])),oQ (aJv x1.1 x7.1)] [7,53,54,55,56,57,58,59] [(7,vI (wr (x7.2+1)))] [(20,sc [vI x6,vI 0,V.t T.nilS,vI 0,vS [],V.t T.nilS,vM aM [x1.1,x7.1]])] [] (qr eR))
theorem aCs(G:GS): ∀(n:Nat) (s:List UInt8) (at_a1:Int) (levels:Int) {r:Expr×Int} (h:s_l3Parse n s at_a1 levels=some r),PQ G 247 [vS s,vI at_a1,vI levels] (V.tup [V.agg (fM r.1),vI r.2]):=by
 intro n
 induction n with
 |zero=>intro s at_a1 levels r h;rw [s_l3Parse.eq_def] at h;cases h
 |succ n ih=>
  intro s at_a1 levels r h
  rw [s_l3Parse.eq_def] at h;dsimp only at h
  refine pq aO Tryz.func247 rfl fun w X hC=> ?_
  refine rq hC [.z (.nat 20)] [6,7] [(6,V.ref 20 0)] [(20,sc [vI 0,vI 0,V.t T.nilS,vI 0,vS [],V.t T.nilS,V.t T.nilS])] [(20,true)] (qs (vj h (fun x_=>aX [(0,vS s),(1,vI at_a1),(2,vI levels),(6,V.ref 20 0),(26,vB x_)] [(20,E.cells [vI 0,vI 0,V.t T.nilS,vI 0,vS [],V.t T.nilS,V.t T.nilS])] [20]) (fun j1 h=> ?_) (fun x2 h=> ?_)))
  ·
   refine aS h (fun c1 h=> ?_) (fun c1 h=> ?_)
   ·refine aS h (fun c2 h=> ?_) (fun c2 h=> ?_)
    ·exact rk hC (rF 3 c1++rF 5 c2) (fr 15 12) [(26,vB (decide ((s.length:Int)≤at_a1)))] [] [] (lE h)
    ·exact rk hC (rF 3 c1++rT 5 c2) (fr 15 12) [(26,vB true)] [] [] (lE h)
   ·exact rk hC (rT 3 c1++sT 5) (fr 15 12) [(26,vB true)] [] [] (lE h)
  ·refine aT h (fun c3 h=> ?_) (fun c3 h=> ?_)
   ·obtain rfl:=so h
    exact rq hC [] [7,27] [(7,vI (-1))] [(20,sc [vI 0,vI 0,V.t T.nilS,vI 0,vS [],V.t T.nilS,V.t T.nilS])] [] (qr eR)
   ·refine qk (qs (qb ?_))
    obtain⟨x3,hx3,h⟩:=bd h
    refine rq hC [oY hx3] (fr 28 5) [(28,vB (decide ((x3.toNat:Int)=123)))] [] [] (aT h (fun c4 h=> ?_) (fun c4 h=> ?_))
    ·obtain⟨x4,hx4,h⟩:=bd h
     refine rq hC [oV (D7 G hx4)] [8,33,34,35] [(8,vI x4)] [] [] (qs (rq hC [] [36,37] [(37,vB (decide (x4<0)))] [] [] (aT h (fun c5 h=> ?_) (fun c5 h=> ?_))))
     ·obtain rfl:=so h
      exact rq hC [] [7,38] [(7,vI (-1))] [(20,sc [vI 0,vI 0,V.t T.nilS,vI 0,vS [],V.t T.nilS,V.t T.nilS])] [] (qr eR)
     ·refine qk ?_
      obtain⟨x5,hx5,x6,hx6,h⟩:=cS h
      obtain rfl:=so h
      exact rq hC [oS hx5,oV (rR G hx6),.z (.nat 21)] [9,10,39,40,41,42,43,44,45,46,47] [(9,V.ref 21 0)] [(21,some (E.cells (aQ x6.1)))] [(21,true)] (rq hC [] [7,48,49,50,51] [(7,vI (wr (x4+1)))] [(20,sc [vI 2,vI 0,vM rI x6.1.coefs,vI x6.1.const,vS [],V.t T.nilS,V.t T.nilS])] [] (qr eR))
    ·refine vj h (fun x_=>aX [(0,vS s),(1,vI at_a1),(2,vI levels),(6,V.ref 20 0),(52,vB x_)] [(20,E.cells [vI 0,vI 0,V.t T.nilS,vI 0,vS [],V.t T.nilS,V.t T.nilS])] [20]) (fun j7 h=> ?_) (fun x8 h=> ?_)
     ·
      refine aS h (fun c6 h=> ?_) (fun c6 h=> ?_)
      ·exact rk hC ([oY hx3]++rF 5 c6) (fr 52 11) [(52,vB false)] [] [] (lE h)
      ·exact rk hC ([oY hx3]++rT 3 c6++[oY hx3,oT c6,oT c6]) (fr 52 11) [(52,vB (decide ((x3.toNat:Int)≤68)))] [] [] (lE h)
     ·refine aT h (fun c7 h=> ?_) (fun c7 h=> ?_)
      ·obtain⟨x9,hx9,h⟩:=bd h
       obtain rfl:=so h
       exact rq hC [oV (oM G hx9),.z (.nat 21)] [11,12,63,64,65,66,67,68] [(11,V.ref 21 0),(12,vI x9.2)] [(21,some (E.cells (dH x9.1)))] [(21,true)] (rq hC [] [7,69,70,71] [(7,vI x9.2)] [(20,sc [vI 3,vI 0,V.t T.nilS,vI 0,vS x9.1.array,vM aB x9.1.subs,V.t T.nilS])] [] (qr eR))
      ·refine rq hC [oY hx3] (fr 72 5) [(72,vB (decide ((x3.toNat:Int)=40)))] [] [] (aT h (fun c8 h=> ?_) (fun c8 h=> ?_))
       ·obtain⟨x10,hx10,h⟩:=bd h
        obtain rfl:=so h
        exact rq hC [oV (aCq G n (s_l3Parse n) (fun q0 q1 q2 r h=>ih q0 q1 q2 h) s (wr (at_a1+1)) (wr (levels-1)) hx10)] [7,77,78,79,80,81,82,83,84] [(7,vI x10.2)] [(20,some (E.cells (fM x10.1)))] [] (qr eR)
       ·refine qk ?_
        obtain⟨x11,hx11,h⟩:=bd h
        refine rq hC [oV (yF G hx11)] [13,14,85,86,87,88,89,90] [(13,vI x11.1),(14,vI x11.2)] [] [] (qs (rq hC [] [91,92,93] [(93,vB (decide (x11.2=at_a1)))] [] [] (aT h (fun c9 h=> ?_) (fun c9 h=> ?_))))
        ·obtain rfl:=so h
         exact rq hC [] [7,94] [(7,vI (-1))] [(20,sc [vI 0,vI 0,V.t T.nilS,vI 0,vS [],V.t T.nilS,V.t T.nilS])] [] (qr eR)
        ·obtain rfl:=so h
         exact qk (rq hC [] [7,95,96,97] [(7,vI x11.2)] [(20,sc [vI 1,vI x11.1,V.t T.nilS,vI 0,vS [],V.t T.nilS,V.t T.nilS])] [] (qr eR))
theorem vE{text}{r}(h:l4 n text=some r):PQ G 206 [vS text] (V.tup [V.agg (d4 r.1),vB r.2]):=by
 unfold l4 at h
 refine pq aO Tryz.func206 rfl fun w X hC=> ?_
 refine rq hC [.z (.nat 20)] [2,3] [(2,V.ref 20 0)] [(20,sc [vS [],V.t T.nilS,vI 0,vI 0,V.t T.nilS,vI 0,vS [],V.t T.nilS,V.t T.nilS])] [(20,true)] (qs (rq hC [] [9,10,11] [(11,vB (decide ((text.length:Int)<4)))] [] [] (aT h (fun c1 h=> ?_) (fun c1 h=> ?_))))
 ·obtain rfl:=so h
  exact rq hC [] [3,12] [(3,vB false)] [(20,sc [vS [],V.t T.nilS,vI 0,vI 0,V.t T.nilS,vI 0,vS [],V.t T.nilS,V.t T.nilS])] [] (qr eR)
 ·refine qk ?_
  obtain⟨x1,hx1,h⟩:=bd h
  refine rq hC [oV (oM G hx1),.z (.nat 21)] [4,5,13,14,15,16,17] [(4,V.ref 21 0),(5,vI x1.2)] [(21,some (E.cells (dH x1.1)))] [(21,true)] (qs (vj h (fun x_=>aX [(0,vS text),(2,V.ref 20 0),(4,V.ref 21 0),(5,vI x1.2),(25,vB x_)] [(20,E.cells [vS [],V.t T.nilS,vI 0,vI 0,V.t T.nilS,vI 0,vS [],V.t T.nilS,V.t T.nilS]),(21,E.cells (dH x1.1))] [20,21]) (fun j2 h=> ?_) (fun x3 h=> ?_)))
  ·
   refine aS h (fun c2 h=> ?_) (fun c2 h=> ?_)
   ·exact rk hC (rF 5 c2) (fr 18 8) [(25,vB (decide ((text.length:Int)≤x1.2)))] [] [] (lE h)
   ·exact rk hC (rT 5 c2) (fr 18 8) [(25,vB true)] [] [] (lE h)
  ·refine aT h (fun c3 h=> ?_) (fun c3 h=> ?_)
   ·obtain rfl:=so h
    exact rq hC [] [3,26] [(3,vB false)] [(20,sc [vS [],V.t T.nilS,vI 0,vI 0,V.t T.nilS,vI 0,vS [],V.t T.nilS,V.t T.nilS])] [] (qr eR)
   ·refine qk ?_
    obtain⟨x4,hx4,h⟩:=bd h
    refine rq hC [oV (aCs G n text (wr (x1.2+1)) 5 hx4),.z (.nat 22)] [6,7,27,28,29,30,31,32,33] [(6,V.ref 22 0)] [(22,some (E.cells (fM x4.1)))] [(22,true)] (rq hC [.z (.nat 23)] [8,34,35,36] [(8,V.ref 23 0)] [(23,sc [vS x1.1.array,vM aB x1.1.subs,vI x4.1.kind,vI x4.1.num,vM rI x4.1.index.coefs,vI x4.1.index.const,vS x4.1.read.array,vM aB x4.1.read.subs,vM aM x4.1.kids])] [(23,true)] (qs ?_))
    obtain⟨x5,hx5,h⟩:=bd h
    refine rq hC [oV (Q7 G hx5)] (fr 37 4) [(40,vB (!decide (x5=text)))] [] [] (aT h (fun c4 h=> ?_) (fun c4 h=> ?_))
    ·obtain rfl:=so h
     exact rq hC [] [3,41] [(3,vB false)] [(20,sc [vS [],V.t T.nilS,vI 0,vI 0,V.t T.nilS,vI 0,vS [],V.t T.nilS,V.t T.nilS])] [] (qr eR)
    ·obtain rfl:=so h
     exact qk (rq hC [] [3,42] [(3,vB true)] [(20,sc [vS x1.1.array,vM aB x1.1.subs,vI x4.1.kind,vI x4.1.num,vM rI x4.1.index.coefs,vI x4.1.index.const,vS x4.1.read.array,vM aB x4.1.read.subs,vM aM x4.1.kids])] [] (qr eR))
end Go.Lift
