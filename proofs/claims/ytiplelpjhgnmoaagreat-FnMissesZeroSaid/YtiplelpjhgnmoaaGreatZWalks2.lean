/- The walks: the code computes what the plain functions say. -/
import Derived.Test.YtiplelpjhgnmoaaGreatZModels
import Derived.Test.YtiplelpjhgnmoaaGreatZWalks1
set_option maxRecDepth 10000
set_option linter.unusedVariables false
namespace Go.Lift
open Go Go.Proofs
variable (G:GS) {n:Nat}
theorem zG{r_a0}{depth}{r}(h:kY n r_a0 depth=some r):VQ G 264 [eL r_a0] [V.ref 0 0,vI depth] (V.agg (dX r.1)) [eL r.2]:=by
 unfold kY at h
 refine vq aS Tryz.func264 rfl fun w X β0 hC hg=> ?_
 refine rq hC [.z (.nat 20)] [4] [(4,V.ref 20 0)] [(20,sc [vS [],V.t T.nilS])] [(20,true)] ?_
 obtain⟨x1,hx1,h⟩:=bd h
 refine rq hC [.z (.int 0),oC [0] [] (iB G hx1),.z (.nat 21)] [5,10,11,12,13] [(5,V.ref 21 0)] [(0,sR x1.2),(21,sc [vS x1.1,V.t T.nilS])] [(0,true),(21,true)] (rq hC [] [6] [(6,vI 1)] [] [] (vj h (fun x_=>aZ [(0,V.ref 0 0),(1,vI depth),(4,V.ref 20 0),(5,V.ref 21 0),(6,vI x_)] [(0,eL x1.2),(20,E.cells [vS [],V.t T.nilS]),(21,E.cells [vS x1.1,V.t T.nilS])] [0,20,21]) (fun j2 h=> ?_) (fun x3 h=> ?_)))
 ·
  refine rq hC [] [14,15,16] [(16,vB (decide (x1.1=[66])))] [] [] (aU h (fun c1 h=> ?_) (fun c1 h=> ?_))
  ·exact rk hC [] [6] [(6,vI 2)] [] [] (lE h)
  ·exact qk (lE h)
 ·refine qs (rq hC [] [7] [(7,vI 0)] [] [] (qb (qw (lk hC [.growc 21 1 22 65] [] [] [(22,some (ar 65 1 2 aB [])),(21,sc [vS x1.1,ms 22 1 2 aB []])] [(22,true)]) (bM (γ:=Nat) h (fun x_ g_=>aZ [(0,V.ref 0 0),(1,vI depth),(4,V.ref 20 0),(5,V.ref 21 0),(6,vI x3),(7,vI x_.2.2.2)] [(0,E.cells [vM rY x_.1,vI x_.2.1]),(20,E.cells [vS [],V.t T.nilS]),(21,E.cells [vS x1.1,ms 22 g_ 2 aB x_.2.2.1]),(22,ar 65 g_ 2 aB x_.2.2.1)] [0,20,21,22]) 1 (lS) ?_))))
  rintro again9 ⟨x4,x5,x6,x7⟩ g8 h
  refine qs (rq hC [] [17,18,19] [(19,vB (decide (x7<x3)))] [] [] (aU h (fun c2 h=> ?_) (fun c2 h=> ?_)))
  ·refine qk (qs (qb ?_))
   obtain⟨x10,hx10,x11,hx11,h⟩:=d4 h
   refine rq hC [.z (.int 0),oC [0] [] (aX G hx10),oC [] [23] (cF G hx11),.z (.nat 24)] [8,22,23,24,25] [(8,V.ref 24 0)] [(0,sR x10.2),(23,some (ar 3 1 1 rI x11.coefs)),(24,sc [ms 23 1 1 rI x11.coefs,vI x11.const])] [(0,true),(23,true),(24,true)] (vj h (fun x_=>aZ [(0,V.ref 0 0),(1,vI depth),(4,V.ref 20 0),(5,V.ref 21 0),(6,vI x3),(7,vI x7),(8,V.ref 24 0)] [(0,E.cells [vM rY x_.1,vI x_.2.1]),(20,E.cells [vS [],V.t T.nilS]),(21,E.cells [vS x1.1,ms 22 g8 2 aB x6]),(22,ar 65 g8 2 aB x6),(24,E.cells [vM rI x_.2.2.1,vI x_.2.2.2])] [0,20,21,22,23,24]) (fun j12 h=> ?_) ?_)
   ·
    refine vj h (fun x_=>aZ [(0,V.ref 0 0),(1,vI depth),(4,V.ref 20 0),(5,V.ref 21 0),(6,vI x3),(7,vI x7),(8,V.ref 24 0),(32,vB x_.2.2)] [(0,E.cells [vM rY x_.1,vI x_.2.1]),(20,E.cells [vS [],V.t T.nilS]),(21,E.cells [vS x1.1,ms 22 g8 2 aB x6]),(22,ar 65 g8 2 aB x6),(23,ar 3 1 1 rI x11.coefs),(24,E.cells [ms 23 1 1 rI x11.coefs,vI x11.const])] [0,20,21,22,23,24]) (fun j13 h=> ?_) ?_
    ·
     refine aT h (fun c3 h=> ?_) (fun c3 h=> ?_)
     ·exact rk hC (rF 4 c3) (fr 26 7) [(32,vB false)] [] [] (lE h)
     ·obtain⟨x14,hx14,h⟩:=bd h
      exact rk hC [oT c3,oT c3,oC [0] [] (bA G hx14),oT c3,oT c3] (fr 26 7) [(32,vB (decide ((0:Int)<x14.1)))] [(0,sR x14.2)] [(0,true)] (lE h)
    ·rintro⟨x15,x16,x17⟩ h
     refine aU h (fun c4 h=> ?_) (fun c4 h=> ?_)
     ·obtain⟨x18,hx18,h⟩:=bd h
      refine rq hC [oC [0] [] (bA G hx18)] [9,33,34,35] [(9,vI x18.1)] [(0,sR x18.2)] [(0,true)] ?_
      obtain⟨x19,hx19,x20,hx20,x21,hx21,h⟩:=kQ h
      obtain⟨x22,hx22,x23,hx23,h⟩:=d4 h
      exact rk hC [oC [] [25] (mX G hx19),.z (.int 0),oC [0] [] (aX G hx20),.z (.int 0),oC [0] [] (aX G hx21),oC [] [26] (cF G hx22),.z (.at 2),.z (.fz 25 [37] []),.z (.at 2),.z (.fz 26 [44] []),oC [] [27] (qQ G hx23)] (fr 36 10) [] [(25,none),(0,sR x21.2),(26,none),(27,some (ar 3 1 1 rI x23.coefs)),(24,sc [ms 27 1 1 rI x23.coefs,vI x23.const])] [(25,true),(0,true),(0,true),(26,true),(27,true)] ⟨(x21.2.b,x21.2.p,x23.coefs,x23.const),h,((lk hC [.fz 27 [] [24]] [] [] [(24,some (E.cells (bC x23))),(27,none)] []).trans (lS))⟩
     ·exact qk ⟨(x15,x16,x11.coefs,x11.const),h,((lk hC [.fz 23 [] [24]] [] [] [(24,some (E.cells (bC x11))),(23,none)] []).trans (lS))⟩
   ·rintro⟨x24,x25,x26,x27⟩ h
    obtain⟨x28,hx28,h⟩:=bd h
    exact rk hC [.z (.int 0),oA (aM aB hx28),oQ (bZ (r:=aB) 2 bF x6),oQ (bZ (r:=aB) 2 bF [(⟨x26,x27⟩:Affine)])] (fr 46 6) [] [(22,some (ar 65 (g8+1) 2 aB x28)),(21,sc [vS x1.1,ms 22 (g8+1) 2 aB x28])] [] (rk hC [] [7,20,21] [(7,vI (wr (x7+1)))] [] [] ⟨(x24,x25,x28,wr (x7+1)),(g8+1),h,lS⟩)
  ·obtain rfl:=so h
   exact dL (rq hC [.z (.at 2),.z (.fz 22 [] [21])] [52] [] [(21,sc [vS x1.1,vM aB x6]),(22,none),(20,sc [vS x1.1,vM aB x6])] [] (qr eW))
theorem aAs{r_a0}{depth}{r}(h:mK n r_a0 depth=some r):VQ G 280 [eL r_a0] [V.ref 0 0,vI depth] (V.agg (bC r.1)) [eL r.2]:=by
 unfold mK at h
 refine vq aS Tryz.func280 rfl fun w X β0 hC hg=> ?_
 refine rq hC [.z (.nat 20)] [4] [(4,V.ref 20 0)] [(20,sc [V.t T.nilS,vI 0])] [(20,true)] ?_
 obtain⟨x1,hx1,x2,hx2,h⟩:=d4 h
 refine rq hC [.z (.int 0),oC [0] [] (aX G hx1),oC [] [21] (cF G hx2),.z (.nat 22)] [5,7,8,9,10] [(5,V.ref 22 0)] [(0,sR x1.2),(21,some (ar 3 1 1 rI x2.coefs)),(22,sc [ms 21 1 1 rI x2.coefs,vI x2.const])] [(0,true),(21,true),(22,true)] (qs (rq hC [] [6] [(6,vI 0)] [] [] (qb (bM (γ:=Nat) h (fun x_ g_=>aZ [(0,V.ref 0 0),(1,vI depth),(4,V.ref 20 0),(5,V.ref 22 0),(6,vI x_.2.2.2)] [(0,E.cells [vM rY x_.1,vI x_.2.1]),(20,E.cells [V.t T.nilS,vI 0]),(21,ar 3 g_ 1 rI x_.2.2.1),(22,E.cells [ms 21 g_ 1 rI x_.2.2.1,vI x2.const])] [0,20,21,22]) 1 (lS) ?_))))
 rintro again8 ⟨x3,x4,x5,x6⟩ g7 h
 refine qs (rq hC [] [11,12,13] [(13,vB (decide (x6<depth)))] [] [] (aU h (fun c1 h=> ?_) (fun c1 h=> ?_)))
 ·refine qk (qs (qb ?_))
  obtain⟨x9,hx9,x10,hx10,x11,hx11,h⟩:=kQ h
  exact dk hC bP [.z (.int 0),oC [0] [] (aX G hx9),oQ (lO rI hx10),oX rI hx10,.z (.rows (List.map rI x11)),oQ (str rI hx11)] (fr 16 7) [] [(0,sR x9.2),(21,some (ar 3 g7 1 rI x11))] [(0,true)] (qw (lpP hC [.lenc 22 0 (List.map rI x11).length] [] [] [(22,sc [ms 21 g7 1 rI x11,vI x2.const])] [] (a1 (sM rI hx11)) (by kernel_rfl)) (rk hC [] [6,14,15] [(6,vI (wr (x6+1)))] [] [] ⟨(x9.2.b,x9.2.p,x11,wr (x6+1)),g7,h,lS⟩))
 ·obtain rfl:=so h
  exact dL (rq hC [.z (.at 2),.z (.fz 21 [] [22])] [23] [] [(22,sc [vM rI x5,vI x2.const]),(21,none),(20,sc [vM rI x5,vI x2.const])] [] (qr eW))
theorem R6(G:GS): ∀(n:Nat) (r_a0:L16Rd) (depth:Int) (levels:Int) {r:Expr×L16Rd} (h:s_l3Value n r_a0 depth levels=some r),VQ G 265 [eL r_a0] [V.ref 0 0,vI depth,vI levels] (V.agg (f0 r.1)) [eL r.2]:=by
 intro n
 induction n with
 |zero=>intro r_a0 depth levels r h;rw [s_l3Value.eq_def] at h;cases h
 |succ n ih=>
  intro r_a0 depth levels r h
  rw [s_l3Value.eq_def] at h;dsimp only at h
  refine vq aS Tryz.func265 rfl fun w X β0 hC hg=> ?_
  refine rq hC [.z (.nat 20)] [6] [(6,V.ref 20 0)] [(20,sc [vI 0,vI 0,V.t T.nilS,vI 0,vS [],V.t T.nilS,V.t T.nilS])] [(20,true)] (qs (vj h (fun x_=>aZ [(0,V.ref 0 0),(1,vI depth),(2,vI levels),(6,V.ref 20 0),(15,vB x_.2.2)] [(0,E.cells [vM rY x_.1,vI x_.2.1]),(20,E.cells [vI 0,vI 0,V.t T.nilS,vI 0,vS [],V.t T.nilS,V.t T.nilS])] [0,20]) (fun j1 h=> ?_) ?_))
  ·
   refine aT h (fun c1 h=> ?_) (fun c1 h=> ?_)
   ·obtain⟨x2,hx2,h⟩:=bd h
    exact rk hC [oF c1,oF c1,oC [0] [] (bA G hx2),oF c1,oF c1] (fr 9 7) [(15,vB (decide (x2.1=0)))] [(0,sR x2.2)] [(0,true)] (lE h)
   ·exact rk hC (rT 4 c1) (fr 9 7) [(15,vB true)] [] [] (lE h)
  ·rintro⟨x3,x4,x5⟩ h
   refine aU h (fun c2 h=> ?_) (fun c2 h=> ?_)
   ·refine qs ?_
    obtain⟨x6,hx6,h⟩:=bd h
    refine rq hC [oC [0] [] (bA G hx6)] [16,17] [(17,vI x6.1)] [(0,sR x6.2)] [(0,true)] (qb (rq hC [] [18,19] [(18,vB (decide (x6.1=0)))] [] [] (aU h (fun c3 h=> ?_) (fun c3 h=> ?_))))
    ·obtain⟨x7,hx7,h⟩:=bd h
     obtain rfl:=so h
     exact rq hC [.z (.int 0),oC [0] [] (aX G hx7)] (fr 20 4) [] [(0,sR x7.2),(20,sc [vI 1,vI x7.1,V.t T.nilS,vI 0,vS [],V.t T.nilS,V.t T.nilS])] [(0,true)] (qr eW)
    ·refine rq hC [] [24,25] [(24,vB (decide (x6.1=1)))] [] [] (aU h (fun c4 h=> ?_) (fun c4 h=> ?_))
     ·obtain⟨x8,hx8,h⟩:=bd h
      obtain rfl:=so h
      exact rq hC [oC [0] [] (aAs G hx8)] (fr 26 4) [] [(0,sR x8.2),(20,sc [vI 2,vI 0,vM rI x8.1.coefs,vI x8.1.const,vS [],V.t T.nilS,V.t T.nilS])] [(0,true)] (qr eW)
     ·refine qk ?_
      obtain⟨x9,hx9,h⟩:=bd h
      obtain rfl:=so h
      exact rq hC [oC [0] [] (zG G hx9)] (fr 30 4) [] [(0,sR x9.2),(20,sc [vI 3,vI 0,V.t T.nilS,vI 0,vS x9.1.array,vM aB x9.1.subs,V.t T.nilS])] [(0,true)] (qr eW)
   ·refine qk ?_
    obtain⟨x10,hx10,h⟩:=bd h
    refine rq hC [.z (.int 0),oC [0] [] (aX G hx10),.z (.nat 21)] [7,34,35,36,37] [(7,V.ref 21 0)] [(0,sR x10.2),(21,sc [vI x10.1,vI 0,V.t T.nilS,vI 0,vS [],V.t T.nilS,V.t T.nilS])] [(0,true),(21,true)] (qs (rq hC [] [8] [(8,vI 0)] [] [] (qb (qw (lk hC [.growc 21 6 22 85] [] [] [(22,some (ar 85 1 7 aL [])),(21,sc [vI x10.1,vI 0,V.t T.nilS,vI 0,vS [],V.t T.nilS,ms 22 1 7 aL []])] [(22,true)]) (bM (γ:=Nat) h (fun x_ g_=>aZ [(0,V.ref 0 0),(1,vI depth),(2,vI levels),(6,V.ref 20 0),(7,V.ref 21 0),(8,vI x_.2.2.2)] [(0,E.cells [vM rY x_.1,vI x_.2.1]),(20,E.cells [vI 0,vI 0,V.t T.nilS,vI 0,vS [],V.t T.nilS,V.t T.nilS]),(21,E.cells [vI x10.1,vI 0,V.t T.nilS,vI 0,vS [],V.t T.nilS,ms 22 g_ 7 aL x_.2.2.1]),(22,ar 85 g_ 7 aL x_.2.2.1)] [0,20,21,22]) 1 (lS) ?_)))))
    rintro again16 ⟨x11,x12,x13,x14⟩ g15 h
    refine qs (rq hC [] [38,39] [(39,vB (decide (x14<2)))] [] [] (aU h (fun c5 h=> ?_) (fun c5 h=> ?_)))
    ·refine qk (qs (qb ?_))
     obtain⟨x17,hx17,x18,hx18,h⟩:=d4 h
     exact dk hC bP [oC [0] [] (ih (⟨x11,x12⟩:L16Rd) depth (wr (levels-1)) hx17),.z (.int 2),.z (.rows (List.map aL [x17.1])),oQ (K4 x17.1),oA (aM aL hx18),oQ (bZ (r:=aL) 7 kM x13),oQ (bZ (r:=aL) 7 kM [x17.1])] (fr 42 10) [] [(0,sR x17.2),(22,some (ar 85 (g15+1) 7 aL x18)),(21,sc [vI x10.1,vI 0,V.t T.nilS,vI 0,vS [],V.t T.nilS,ms 22 (g15+1) 7 aL x18])] [(0,true)] (rk hC [] [8,40,41] [(8,vI (wr (x14+1)))] [] [] ⟨(x17.2.b,x17.2.p,x18,wr (x14+1)),(g15+1),h,lS⟩)
    ·obtain rfl:=so h
     exact dL (rq hC [.z (.at 2),.z (.fz 22 [] [21])] [52] [] [(21,sc [vI x10.1,vI 0,V.t T.nilS,vI 0,vS [],V.t T.nilS,vM aL x13]),(22,none),(20,sc [vI x10.1,vI 0,V.t T.nilS,vI 0,vS [],V.t T.nilS,vM aL x13])] [] (qr eW))
theorem aAl{r_a0}{depth}{r}(h:o6 n r_a0 depth=some r):VQ G 229 [eL r_a0] [V.ref 0 0,vI depth] (V.agg (fU r.1)) [eL r.2]:=by
 unfold o6 at h
 refine vq aS Tryz.func229 rfl fun w X β0 hC hg=> ?_
 refine rq hC [.z (.nat 20)] [4] [(4,V.ref 20 0)] [(20,sc [vS [],V.t T.nilS,vI 0,vI 0,V.t T.nilS,vI 0,vS [],V.t T.nilS,V.t T.nilS])] [(20,true)] ?_
 obtain⟨x1,hx1,x2,hx2,x3,hx3,h⟩:=kQ h
 refine rq hC [oC [0] [] (zG G hx1),.z (.int 0),oC [0] [] (aX G hx2),oC [0] [] (R6 G n x2.2 depth x2.1 hx3),.z (.nat 21)] (fr 5 11) [(5,V.ref 21 0)] [(0,sR x3.2),(21,sc [vS x1.1.array,vM aB x1.1.subs,vI x3.1.kind,vI x3.1.num,vM rI x3.1.index.coefs,vI x3.1.index.const,vS x3.1.read.array,vM aB x3.1.read.subs,vM aL x3.1.kids])] [(0,true),(0,true),(0,true),(21,true)] (qs ?_)
 obtain⟨x4,hx4,h⟩:=bd h
 refine rq hC [oV (l9 G hx4)] [16,17,18] [(18,vB x4)] [] [] (aU h (fun c1 h=> ?_) (fun c1 h=> ?_))
 ·obtain rfl:=so h
  exact rq hC [] [19] [] [(20,sc [vS x1.1.array,vM aB x1.1.subs,vI x3.1.kind,vI x3.1.num,vM rI x3.1.index.coefs,vI x3.1.index.const,vS x3.1.read.array,vM aB x3.1.read.subs,vM aL x3.1.kids])] [] (qr eW)
 ·refine qk ?_
  obtain⟨x5,hx5,h⟩:=bd h
  obtain rfl:=so h
  exact rq hC [oC [] [22] (iX G n hx5),.z (.at 5),.z (.fz 22 [20] []),.z (.int 0)] (fr 20 5) [] [(22,none),(20,sc [vS [65],vM aB [x5],vI 1,vI 1,V.t T.nilS,vI 0,vS [],V.t T.nilS,V.t T.nilS])] [(22,true)] (qr eW)
theorem T3{sizes}{r}(h:pU n sizes=some r):VQ G 230 [] [vM rI sizes] (V.tup [ms 0 1 2 aD r.1,vB r.2]) [ar 58 1 2 aD r.1]:=by
 unfold pU at h
 refine vq aS Tryz.func230 rfl fun w X β0 hC hg=> ?_
 refine rq hC [] [2,3] [] [] [] (rq hC [.z (.nat 20)] [4,6] [(4,ms 20 1 2 aD [])] [(20,some (ar 58 1 2 aD []))] [(20,true)] (qs (rq hC [oN rI sizes] [7,8,9] [(9,vB (decide ((4:Int)<(sizes.length:Int))))] [] [] (aU h (fun c1 h=> ?_) (fun c1 h=> ?_)))))
 ·obtain rfl:=so h
  exact rq hC [] [2,3,10] [(2,ms 20 1 2 aD []),(3,vB false)] [] [] (qw (lk hC [.ren 2 20 0] [2] [(2,ms 0 1 2 aD [])] [(0,some (ar 58 1 2 aD [])),(20,none)] [(0,true)]) (qr eW))
 ·refine qk (qs (rq hC [] [5] [(5,vI 0)] [] [] (qb (bM (γ:=Nat) h (fun x_ g_=>aZ [(0,vM rI sizes),(4,ms 20 g_ 2 aD x_.1),(5,vI x_.2)] [(20,ar 58 g_ 2 aD x_.1)] [20]) 1 (lS) ?_))))
  rintro again4 ⟨x1,x2⟩ g3 h
  refine qs (rq hC [oN rI sizes] (fr 11 4) [(14,vB (decide (x2<(sizes.length:Int))))] [] [] (aU h (fun c2 h=> ?_) (fun c2 h=> ?_)))
  ·refine qk (qs (qb (qs (vj h (fun x_=>aZ [(0,vM rI sizes),(4,ms 20 g3 2 aD x1),(5,vI x2),(28,vB x_)] [(20,ar 58 g3 2 aD x1)] [20]) (fun j5 h=> ?_) (fun x7 h=> ?_)))))
   ·
    obtain⟨x6,hx6,h⟩:=bd h
    refine aT h (fun c3 h=> ?_) (fun c3 h=> ?_)
    ·exact rk hC ([oR rI hx6]++rF 3 c3++[oR rI hx6]++rF 3 c3) (fr 17 12) [(28,vB (decide ((99:Int)<x6)))] [] [] (lE h)
    ·exact rk hC ([oR rI hx6]++rT 6 c3) (fr 17 12) [(28,vB true)] [] [] (lE h)
   ·refine aU h (fun c4 h=> ?_) (fun c4 h=> ?_)
    ·obtain rfl:=so h
     exact rq hC [.z (.nat 21)] [2,3,29] [(2,ms 21 1 2 aD []),(3,vB false)] [(21,some (ar 58 1 2 aD []))] [(21,true)] (qw (lk hC [.ren 2 21 0] [2] [(2,ms 0 1 2 aD [])] [(0,some (ar 58 1 2 aD [])),(21,none)] [(0,true)]) (qr eW))
    ·refine qk ?_
     obtain⟨x8,hx8,x9,hx9,x10,hx10,h⟩:=kQ h
     obtain⟨x11,hx11,h⟩:=bd h
     exact dk hC bP [oC [] [21] (iX G n hx8),.z (.at 11),.z (.fz 21 [31] []),.z (.int 0),oR rI hx9,oC [] [22] (cF G hx10),.z (.at 5),.z (.fz 22 [37] []),.z (.int 0),.z (.int 0),oA (aM aD hx11),oQ (bZ (r:=aD) 2 eY x1),oQ (bZ (r:=aD) 2 eY [(⟨[x8],[x10]⟩:Loop)])] [4,30,31,32,33,34,35,36,37,38,39,40,41] [(4,ms 20 (g3+1) 2 aD x11)] [(21,none),(22,none),(20,some (ar 58 (g3+1) 2 aD x11))] [(21,true),(22,true)] (rk hC [] [5,15,16] [(5,vI (wr (x2+1)))] [] [] ⟨(x11,wr (x2+1)),(g3+1),h,lS⟩)
  ·obtain rfl:=so h
   exact dL (rq hC [] [2,3,42] [(2,ms 20 g3 2 aD x1),(3,vB true)] [] [] (qw (lk hC [.ren 2 20 0] [2] [(2,ms 0 1 2 aD x1)] [(0,some (ar 58 1 2 aD x1)),(20,none)] [(0,true)]) (qr eW)))
theorem aAk{r_a0}{r}(h:o5 n r_a0=some r):VQ G 174 [eL r_a0] [V.ref 0 0] (V.agg (aFf r.1)) [eL r.2]:=by
 unfold o5 at h
 refine vq aS Tryz.func174 rfl fun w X β0 hC hg=> ?_
 refine rq hC [.z (.nat 20)] [2] [(2,V.ref 20 0)] [(20,sc [V.t T.nilS,V.t T.nilS])] [(20,true)] (qs (rq hC [] [3] [(3,vI 0)] [] [] (qb (kJ h (fun x_=>aZ [(0,V.ref 0 0),(2,V.ref 20 0),(3,vI x_.2.2)] [(0,E.cells [vM rY x_.1,vI x_.2.1]),(20,E.cells [V.t T.nilS,V.t T.nilS])] [0,20]) lS ?_))))
 rintro again4 ⟨x1,x2,x3⟩ h
 refine qs (rq hC [] [16,17] [(17,vB (decide (x3<4)))] [] [] (aU h (fun c1 h=> ?_) (fun c1 h=> ?_)))
 ·refine qk (qs (qb ?_))
  obtain⟨x5,hx5,h⟩:=bd h
  refine rq hC [oC [0] [21] (aAo G hx5),.z (.nat 22)] [4,20,21,22] [(4,V.ref 22 0)] [(21,some (ar 58 1 2 aD x5.1)),(0,sR x5.2),(22,sc [ms 21 1 2 aD x5.1,V.t T.nilS])] [(0,true),(21,true),(22,true)] (qs ?_)
  obtain⟨x6,hx6,h⟩:=bd h
  refine rq hC [.z (.int 0),oC [0] [] (aX G hx6)] [5,23,24,25] [(5,vI x6.1)] [(0,sR x6.2)] [(0,true)] (qb (qw (lk hC [.fz 21 [] [22]] [] [] [(22,sc [vM aD x5.1,V.t T.nilS]),(21,none)] []) (qw (lk hC [.growc 22 1 23 87] [] [] [(23,some (ar 87 1 9 aR [])),(22,sc [vM aD x5.1,ms 23 1 9 aR []])] [(23,true)]) (bM (γ:=Nat) h (fun x_ g_=>aZ [(0,V.ref 0 0),(2,V.ref 20 0),(3,vI x3),(4,V.ref 22 0),(5,vI x_.2.2.2.2)] [(0,E.cells [vM rY x_.1,vI x_.2.1]),(20,E.cells [V.t T.nilS,V.t T.nilS]),(22,E.cells [vM aD x_.2.2.1,ms 23 g_ 9 aR x_.2.2.2.1]),(23,ar 87 g_ 9 aR x_.2.2.2.1)] [0,20,21,22,23]) 1 (lS) ?_))))
  rintro again13 ⟨x7,x8,x9,x10,x11⟩ g12 h
  refine qs (rq hC [] [26,27] [(27,vB (decide ((0:Int)<x11)))] [] [] (aU h (fun c2 h=> ?_) (fun c2 h=> ?_)))
  ·refine qk ?_
   obtain⟨j14,hj14,h⟩:=yG h
   refine jM (γ:=Nat) (j:=j14) (r:=r) (fun x_ g_=>aZ [(0,V.ref 0 0),(2,V.ref 20 0),(3,vI x3),(4,V.ref 22 0),(5,vI x11)] [(0,E.cells [vM rY x_.1,vI x_.2.1]),(20,E.cells [V.t T.nilS,V.t T.nilS]),(22,E.cells [vM aD x9,ms 23 g_ 9 aR x_.2.2]),(23,ar 87 g_ 9 aR x_.2.2)] [0,20,21,22,23]) ?_ ?_
   ·
    refine qb (rq hC [] [6] [(6,vI 0)] [] [] (qb (kJ h (fun x_=>aZ [(0,V.ref 0 0),(2,V.ref 20 0),(3,vI x3),(4,V.ref 22 0),(5,vI x11),(6,vI x_.2.2)] [(0,E.cells [vM rY x_.1,vI x_.2.1]),(20,E.cells [V.t T.nilS,V.t T.nilS]),(22,E.cells [vM aD x9,ms 23 g12 9 aR x10]),(23,ar 87 g12 9 aR x10)] [0,20,21,22,23]) lS ?_)))
    rintro again18 ⟨x15,x16,x17⟩ h
    refine qs (rq hC [] [30,31] [(31,vB (decide (x17<5)))] [] [] (aU h (fun c3 h=> ?_) (fun c3 h=> ?_)))
    ·refine qk (qs (qb ?_))
     obtain⟨x19,hx19,h⟩:=bd h
     refine rq hC [oN aD x9,oC [0] [] (aAl G hx19),.z (.nat 24)] [7,34,35,36,37,38] [(7,V.ref 24 0)] [(0,sR x19.2),(24,some (E.cells (fU x19.1)))] [(0,true),(24,true)] (qs ?_)
     obtain⟨x20,hx20,x21,hx21,h⟩:=d4 h
     refine dk hC bP [oV (nT G n hx20),.z (.int 1),.z (.nat 25),.z (.at 7),.z (.fz 25 [44] []),oV (rD G hx21)] [8,9,39,40,41,42,43,44,45,46,47,48] [(9,vB x21.2)] [(25,none)] [(25,true)] (rq hC [] [49] [(49,vB x21.2)] [] [] (aU h (fun c4 h=> ?_) (fun c4 h=> ?_)))
     ·obtain⟨x22,hx22,h⟩:=bd h
      exact rq hC [.z (.int 0),oA (aM aR hx22),oQ (bZ (r:=aR) 9 kL x10),oQ (bZ (r:=aR) 9 kL [x19.1])] (fr 50 6) [] [(23,some (ar 87 (g12+1) 9 aR x22)),(22,sc [vM aD x9,ms 23 (g12+1) 9 aR x22])] [] (dL ⟨(x19.2.b,x19.2.p,x22),(g12+1),h,lS⟩)
     ·exact qk (rk hC [] [6,32,33] [(6,vI (wr (x17+1)))] [] [] (lE h))
    ·exact dL ⟨(x15,x16,x10),g12,h,lS⟩
   ·rintro⟨x23,x24,x25⟩ g26 h
    subst hj14
    exact rk hC [] [5,28,29] [(5,vI (wr (x11-1)))] [] [] ⟨(x23,x24,x9,x25,wr (x11-1)),g26,h,lS⟩
  ·refine dL (qs ?_)
   obtain⟨x27,hx27,x28,hx28,h⟩:=d4 h
   refine dk hC bP [oV (nT G n hx27),.z (.at 7),.z (.fz 23 [] [22]),oV (rD G hx28)] [10,11,56,57,58,59,60,61] [(10,vI x28.1),(11,vB x28.2)] [(22,sc [vM aD x9,vM aR x10]),(23,none)] [] (vj h (fun x_=>aZ [(0,V.ref 0 0),(2,V.ref 20 0),(3,vI x3),(4,V.ref 22 0),(66,vB x_)] [(0,E.cells [vM rY x7,vI x8]),(20,E.cells [V.t T.nilS,V.t T.nilS]),(22,E.cells [vM aD x9,vM aR x10])] [0,20,21,22,23]) (fun j29 h=> ?_) (fun x30 h=> ?_))
   ·
    refine aT h (fun c5 h=> ?_) (fun c5 h=> ?_)
    ·exact rk hC (rF 3 c5) (fr 62 5) [(66,vB false)] [] [] (lE h)
    ·exact rk hC (rT 3 c5) (fr 62 5) [(66,vB (decide (x28.1≤40)))] [] [] (lE h)
   ·refine aU h (fun c6 h=> ?_) (fun c6 h=> ?_)
    ·obtain rfl:=so h
     exact rq hC [] [67] [] [(20,sc [vM aD x9,vM aR x10])] [] (qr eW)
    ·exact qk (rk hC [] [3,18,19] [(3,vI (wr (x3+1)))] [] [] (lE h))
 ·refine dL ?_
  obtain⟨x31,hx31,h⟩:=bd h
  refine rq hC [oV (qR G hx31),.z (.nat 21)] [12,13,68,69,70,71] [(12,V.ref 21 0)] [(21,some (E.cells (fU x31.1)))] [(21,true)] ?_
  obtain⟨x32,hx32,h⟩:=bd h
  obtain rfl:=so h
  exact rq hC [.z (.int 0),oC [] [22] (T3 G hx32)] [14,15,72,73,74,75,76] [(14,ms 22 1 2 aD x32.1)] [(22,some (ar 58 1 2 aD x32.1))] [(22,true)] (rq hC [.z (.int 1),.z (.nat 23)] (fr 77 4) [] [(23,some (ar 87 1 9 aR [x31.1])),(20,sc [ms 22 1 2 aD x32.1,ms 23 1 9 aR [x31.1]])] [(23,true)] (qw (lk hC [.fz 22 [14] [20]] [14] [(14,vM aD x32.1)] [(20,sc [vM aD x32.1,ms 23 1 9 aR [x31.1]]),(22,none)] []) (qw (lk hC [.fz 23 [] [20]] [] [] [(20,sc [vM aD x32.1,vM aR [x31.1]]),(23,none)] []) (qr eW))))
theorem aAi{r_a0}{r}(h:o1 n r_a0=some r):VQ G 129 [eL r_a0] [V.ref 0 0] (V.agg (cO r.1)) [eL r.2]:=by
 unfold o1 at h
 refine vq aS Tryz.func129 rfl fun w X β0 hC hg=> ?_
 refine rq hC [.z (.nat 20)] [2] [(2,V.ref 20 0)] [(20,sc [V.t T.nilS,V.t T.nilS])] [(20,true)] ?_
 obtain⟨x1,hx1,h⟩:=bd h
 refine rq hC [oV (nT G n hx1),.z (.nat 21)] [3,5,6] [(3,V.ref 21 0)] [(21,sc [vM aI x1,V.t T.nilS])] [(21,true)] (qs ?_)
 obtain⟨x2,hx2,h⟩:=bd h
 refine rq hC [.z (.int 0),oC [0] [] (aX G hx2)] [4,7,8,9] [(4,vI x2.1)] [(0,sR x2.2)] [(0,true)] (qb (qw (lk hC [.growc 21 1 22 62] [] [] [(22,some (ar 62 1 2 aF [])),(21,sc [vM aI x1,ms 22 1 2 aF []])] [(22,true)]) (bM (γ:=Nat) h (fun x_ g_=>aZ [(0,V.ref 0 0),(2,V.ref 20 0),(3,V.ref 21 0),(4,vI x_.2.2.2)] [(0,E.cells [vM rY x_.1,vI x_.2.1]),(20,E.cells [V.t T.nilS,V.t T.nilS]),(21,E.cells [vM aI x1,ms 22 g_ 2 aF x_.2.2.1]),(22,ar 62 g_ 2 aF x_.2.2.1)] [0,20,21,22]) 1 (lS) ?_)))
 rintro again8 ⟨x3,x4,x5,x6⟩ g7 h
 refine qs (rq hC [] [10,11] [(11,vB (decide ((0:Int)<x6)))] [] [] (aU h (fun c1 h=> ?_) (fun c1 h=> ?_)))
 ·refine qk (qs (qb ?_))
  obtain⟨x9,hx9,x10,hx10,h⟩:=d4 h
  exact dk hC bP [oC [0] [] (aAk G hx9),.z (.int 0),oA (aM aF hx10),oQ (bZ (r:=aF) 2 iO x5),oQ (bZ (r:=aF) 2 iO [x9.1])] (fr 14 7) [] [(0,sR x9.2),(22,some (ar 62 (g7+1) 2 aF x10)),(21,sc [vM aI x1,ms 22 (g7+1) 2 aF x10])] [(0,true)] (rk hC [] [4,12,13] [(4,vI (wr (x6-1)))] [] [] ⟨(x9.2.b,x9.2.p,x10,wr (x6-1)),(g7+1),h,lS⟩)
 ·refine dL (qs ?_)
  obtain⟨x11,hx11,h⟩:=bd h
  refine rq hC [.z (.at 2),.z (.fz 22 [] [21]),oV (fR G hx11)] [21,22] [(22,vB x11)] [(21,sc [vM aI x1,vM aF x5]),(22,none)] [] (aU h (fun c2 h=> ?_) (fun c2 h=> ?_))
  ·obtain rfl:=so h
   exact rq hC [] [23] [] [(20,sc [vM aI x1,vM aF x5])] [] (qr eW)
  ·refine qk (qs ?_)
   obtain⟨x12,hx12,x13,hx13,h⟩:=d4 h
   obtain rfl:=so h
   exact dk hC bP [oV (nT G n hx12),oA (rV aF hx13),oQ (bZ (r:=aF) 2 iO x5)] (fr 24 5) [] [(20,sc [vM aI x12,vM aF x13])] [] (qr eW)
theorem aAe{r_a0}{r}(h:oU n r_a0=some r):VQ G 79 [eL r_a0] [V.ref 0 0] (V.agg (cO r.1)) [eL r.2]:=by
 unfold oU at h
 refine vq aS Tryz.func79 rfl fun w X β0 hC hg=> ?_
 refine rq hC [.z (.nat 20)] [2] [(2,V.ref 20 0)] [(20,sc [V.t T.nilS,V.t T.nilS])] [(20,true)] ?_
 obtain⟨x1,hx1,h⟩:=bd h
 refine rq hC [.z (.int 0),oC [0] [] (iB G hx1)] [3,6,7,8] [(3,vS x1.1)] [(0,sR x1.2)] [(0,true)] ?_
 obtain⟨x2,hx2,x3,hx3,h⟩:=d4 h
 refine rq hC [oS hx2,oV (mY G hx3),.z (.nat 21)] [4,5,9,10,11,12,13,14] [(4,V.ref 21 0),(5,vB x3.2)] [(21,some (E.cells (cO x3.1)))] [(21,true)] (qs (vj h (fun x_=>aZ [(0,V.ref 0 0),(2,V.ref 20 0),(4,V.ref 21 0),(20,vB x_.2.2)] [(0,E.cells [vM rY x_.1,vI x_.2.1]),(20,E.cells [V.t T.nilS,V.t T.nilS]),(21,E.cells (cO x3.1))] [0,20,21]) (fun j4 h=> ?_) ?_))
 ·
  refine aT h (fun c1 h=> ?_) (fun c1 h=> ?_)
  ·exact rk hC (rF 4 c1) (fr 15 6) [(20,vB false)] [] [] (lE h)
  ·obtain⟨x5,hx5,h⟩:=bd h
   exact rk hC [oT c1,oT c1,oC [0] [] (bA G hx5),oT c1,oT c1] (fr 15 6) [(20,vB (decide ((0:Int)<x5.1)))] [(0,sR x5.2)] [(0,true)] (lE h)
 ·rintro⟨x6,x7,x8⟩ h
  refine aU h (fun c2 h=> ?_) (fun c2 h=> ?_)
  ·obtain rfl:=so h
   exact rq hC [] [21] [] [(20,some (E.cells (cO x3.1)))] [] (qr eW)
  ·refine qk ?_
   obtain⟨x9,hx9,h⟩:=bd h
   obtain rfl:=so h
   exact rq hC [oC [0] [] (aAi G hx9)] [22,23] [] [(0,sR x9.2),(20,some (E.cells (cO x9.1)))] [(0,true)] (qr eW)
theorem S6{code}{r}(h:mL n code=some r):VQ G 27 [] [vM rY code] (V.ref 0 0) [eL r]:=by
 unfold mL at h
 refine vq aS Tryz.func27 rfl fun w X β0 hC hg=> ?_
 refine rq hC [] [2] [] [] [] (vj h (fun x_=>aZ [(0,vM rY x_)] [] []) (fun j1 h=> ?_) (fun x3 h=> ?_))
 ·
  refine rq hC [oN rY code] [3,4,5] [(5,vB (decide ((2000:Int)<(code.length:Int))))] [] [] (aU h (fun c1 h=> ?_) (fun c1 h=> ?_))
  ·obtain⟨x2,hx2,h⟩:=bd h
   exact rk hC [oA (rV rY hx2),oQ (bZ (r:=rY) 1 (fun _=>rfl) code)] [0,6,7] [(0,vM rY x2)] [] [] (lE h)
  ·exact qk (lE h)
 ·obtain rfl:=so h
  exact rq hC [.z (.nat 0)] [2,8,9,10] [(2,V.ref 0 0)] [(0,sc [vM rY x3,vI 0])] [(0,true)] (qr eW)
theorem zR{a}{r}(h:jZ n a=some r):PQ G 184 [V.agg [vS a.name,vM rI a.dims]] (vI r):=by
 unfold jZ at h
 refine pq aS Tryz.func184 rfl fun w X hC=> ?_
 refine rq hC [.z (.b (true))] [1,2] [(1,V.tp [T.str a.name,T.sl (List.map rI a.dims)])] [] [] (rq hC [] [3] [(3,vI 1)] [] [] (qs (rq hC [oN rI a.dims] (fr 6 4) [(7,vM rI a.dims),(8,vI (a.dims.length:Int)),(9,vI 0)] [] [] (qb (kJ h (fun x_=>aZ [(3,vI x_.1),(7,vM rI a.dims),(8,vI (a.dims.length:Int)),(9,vI x_.2)] [] []) lS ?_)))))
 rintro again3 ⟨x1,x2⟩ h
 refine rq hC [] [10] [(10,vB (decide (x2<(a.dims.length:Int))))] [] [] (qs (aU h (fun c1 h=> ?_) (fun c1 h=> ?_)))
 ·refine qk (qs (qb ?_))
  obtain⟨x4,hx4,h⟩:=bd h
  exact rq hC [oR rI hx4] [5,11,12] [(5,vI x4)] [] [] (rk hC [] [3,13,14,15] [(3,vI (wr (x1*x4)))] [] [] (rk hC [] [9,16] [(9,vI (wr (x2+1)))] [] [] (lE h)))
 ·obtain rfl:=so h
  exact dL (rq hC [] [2,17] [(2,vI x1)] [] [] (qr eR))
theorem eU{a}{point}{r}(h:bY n a point=some r):PQ G 185 [V.agg (bC a),vM rI point] (vI r):=by
 unfold bY at h
 refine pq aS Tryz.func185 rfl fun w X hC=> ?_
 refine rq hC [.z (.b (true))] [2,4] [(2,V.tp (bK a))] [] [] (rq hC [] [5,8,9] [(5,vI a.const)] [] [] (qs (rq hC [oN rI point] [10,11,12] [(10,vM rI point),(11,vI (point.length:Int)),(12,vI 0)] [] [] (qb (kJ h (fun x_=>aZ [(2,V.tp (bK a)),(5,vI x_.1),(10,vM rI point),(11,vI (point.length:Int)),(12,vI x_.2)] [] []) lS ?_)))))
 rintro again3 ⟨x1,x2⟩ h
 refine rq hC [] [13] [(13,vB (decide (x2<(point.length:Int))))] [] [] (qs (aU h (fun c1 h=> ?_) (fun c1 h=> ?_)))
 ·refine qk (qs (qb ?_))
  obtain⟨x4,hx4,h⟩:=bd h
  refine rq hC [oR rI hx4] [6,7,14,15,16] [(6,vI x2),(7,vI x4)] [] [] ?_
  obtain⟨x5,hx5,h⟩:=bd h
  exact rk hC [oR rI hx5] [5,17,18,19,20,21,22,23,24,25] [(5,vI (wr (x1+(wr (x5*x4)))))] [] [] (rk hC [] [12,26] [(12,vI (wr (x2+1)))] [] [] (lE h))
 ·obtain rfl:=so h
  exact dL (rq hC [] [4,27] [(4,vI x1)] [] [] (qr eR))
theorem bJ{n_a0}{low}{high}{r}(h:cA n n_a0 low high=some r):PQ G 62 [vI n_a0,vI low,vI high] (vB r):=by
 unfold cA at h
 refine pq aS Tryz.func62 rfl fun w X hC=> ?_
 refine rq hC [] [6] [] [] [] (vj h (fun x_=>aZ [(6,vB x_)] [] []) (fun j1 h=> ?_) (fun x2 h=> ?_))
 ·
  refine aT h (fun c1 h=> ?_) (fun c1 h=> ?_)
  ·exact rk hC (rF 4 c1) (fr 6 9) [(6,vB false)] [] [] (lE h)
  ·exact rk hC (rT 4 c1) (fr 6 9) [(6,vB (decide (n_a0≤high)))] [] [] (lE h)
 ·obtain rfl:=so h
  exact qr eR
theorem eE{p}{a}{point}{r}(h:cS n p a point=some r):PQ G 142 [V.agg (cO p),V.agg (dX a),vM rI point] (vI r):=by
 unfold cS at h
 refine pq aS Tryz.func142 rfl fun w X hC=> ?_
 refine rq hC [.z (.b (true)),.z (.b (true))] [3,4,6] [(3,V.tp (cD p)),(4,V.tp (d5 a))] [] [] (rq hC [] [7] [(7,vI 0)] [] [] (qs (rq hC [oN aI p.arrays] (fr 14 4) [(15,vM aI p.arrays),(16,vI (p.arrays.length:Int)),(17,vI 0)] [] [] (qb (kJ h (fun x_=>aZ [(2,vM rI point),(4,V.tp (d5 a)),(7,vI x_.1),(15,vM aI p.arrays),(16,vI (p.arrays.length:Int)),(17,vI x_.2)] [] []) lS ?_)))))
 rintro again3 ⟨x1,x2⟩ h
 refine rq hC [] [18] [(18,vB (decide (x2<(p.arrays.length:Int))))] [] [] (qs (aU h (fun c1 h=> ?_) (fun c1 h=> ?_)))
 ·refine qk (qs (qb ?_))
  obtain⟨x4,hx4,h⟩:=bd h
  refine rq hC [oR aI hx4,.z (.nat 20)] [9,19,20] [(9,V.ref 20 0)] [(20,sc [vS x4.name,vM rI x4.dims])] [(20,true)] (qs (rq hC [] (fr 21 5) [(25,vB (!decide (x4.name=a.array)))] [] [] (aU h (fun c2 h=> ?_) (fun c2 h=> ?_))))
  ·obtain⟨x5,hx5,h⟩:=bd h
   exact rq hC [oV (zR G hx5)] [7,26,27,28,29] [(7,vI (wr (x1+x5)))] [] [] (dL (rk hC [] [17,70] [(17,vI (wr (x2+1)))] [] [] (lE h)))
  ·refine qk (qs (rq hC [oN aB a.subs,oN rI x4.dims] (fr 30 7) [(36,vB (!decide ((a.subs.length:Int)=(x4.dims.length:Int))))] [] [] (aU h (fun c3 h=> ?_) (fun c3 h=> ?_))))
   ·obtain rfl:=so h
    exact rq hC [] [6] [(6,vI (-1))] [] [] (qr eR)
   ·refine qk (rq hC [] [10] [(10,vI 0)] [] [] (qs (rq hC [oN aB a.subs] (fr 37 4) [(38,vM aB a.subs),(39,vI (a.subs.length:Int)),(40,vI 0)] [] [] (qb (kJ h (fun x_=>aZ [(2,vM rI point),(7,vI x1),(9,V.ref 20 0),(10,vI x_.1),(38,vM aB a.subs),(39,vI (a.subs.length:Int)),(40,vI x_.2)] [(20,E.cells [vS x4.name,vM rI x4.dims])] [20]) lS ?_)))))
    rintro again8 ⟨x6,x7⟩ h
    refine rq hC [] [41] [(41,vB (decide (x7<(a.subs.length:Int))))] [] [] (qs (aU h (fun c4 h=> ?_) (fun c4 h=> ?_)))
    ·refine qk (qs (qb ?_))
     obtain⟨x9,hx9,h⟩:=bd h
     refine rq hC [oR aB hx9,.z (.nat 21)] [11,12,42,43,44] [(11,vI x7),(12,V.ref 21 0)] [(21,some (E.cells (bC x9)))] [(21,true)] ?_
     obtain⟨x10,hx10,h⟩:=bd h
     refine rq hC [oV (eU G hx10)] [13,45,46,47] [(13,vI x10)] [] [] (qs ?_)
     obtain⟨x11,hx11,x12,hx12,h⟩:=d4 h
     refine rq hC [oR rI hx11,oV (bJ G hx12)] (fr 48 9) [(56,vB (!x12))] [] [] (aU h (fun c5 h=> ?_) (fun c5 h=> ?_))
     ·obtain rfl:=so h
      exact rq hC [] [6] [(6,vI (-1))] [] [] (qr eR)
     ·exact qk (rk hC [oR rI hx11] [10,57,58,59,60,61,62,63,64,65] [(10,vI (wr ((wr (x6*x11))+x10)))] [] [] (rk hC [] [40,66] [(40,vI (wr (x7+1)))] [] [] (lE h)))
    ·obtain rfl:=so h
     exact dL (rq hC [] [6,67,68,69] [(6,vI (wr (x1+x6)))] [] [] (qr eR))
 ·obtain rfl:=so h
  exact dL (rq hC [] [6] [(6,vI (-1))] [] [] (qr eR))
theorem pN(G:GS)(n:Nat)(a:Access)(c0__a1:Prog)(c1__a2:List Int){r:Bool}(h:cM n a c0__a1 c1__a2=some r):PQ G 172 [V.agg (dX a),V.tp (cD c0__a1),V.tp [T.sl (List.map rI c1__a2)]] (vB r):=by
 unfold cM at h
 refine pq aS Tryz.func172 rfl fun w X hC=> ?_
 refine rq hC [.z (.b (true))] [3,4] [(3,V.tp (d5 a))] [] [] ?_
 obtain⟨x1,hx1,h⟩:=bd h
 obtain rfl:=so h
 exact rq hC [oV (eE G hx1)] (fr 4 6) [(4,vB (decide (x1<0)))] [] [] (qr eR)
theorem F5(G:GS): ∀(n:Nat) (e:Expr) {r:(List Access)} (h:i_reads n e=some r),VQ G 141 [] [V.agg (f0 e)] (ms 0 1 2 aN r) [ar 82 1 2 aN r]:=by
 intro n
 induction n with
 |zero=>intro e r h;rw [i_reads.eq_def] at h;cases h
 |succ n ih=>
  intro e r h
  rw [i_reads.eq_def] at h;dsimp only at h
  refine vq aS Tryz.func141 rfl fun w X β0 hC hg=> ?_
  refine rq hC [.z (.b (true))] [1,2] [(1,V.tp (iE e))] [] [] (qs (rq hC [] [6,7,8] [(8,vB (decide (e.kind=3)))] [] [] (aU h (fun c1 h=> ?_) (fun c1 h=> ?_))))
  ·obtain rfl:=so h
   exact rq hC [.z (.int 1),.z (.nat 20)] [2,9,10,11] [(2,ms 20 1 2 aN [e.read])] [(20,some (ar 82 1 2 aN [e.read]))] [(20,true)] (qw (lk hC [.ren 2 20 0] [2] [(2,ms 0 1 2 aN [e.read])] [(0,some (ar 82 1 2 aN [e.read])),(20,none)] [(0,true)]) (qr eW))
  ·refine qk (rq hC [] [3] [(3,V.t T.nilS)] [] [] (qs (rq hC [oN aL e.kids] (fr 12 4) [(13,vM aL e.kids),(14,vI (e.kids.length:Int)),(15,vI 0)] [] [] (qb (qw (lk hC [.grow 3 20 82] [3] [(3,ms 20 1 2 aN [])] [(20,some (ar 82 1 2 aN []))] [(20,true)]) ?_)))))
   refine bM (γ:=Nat) h (fun x_ g_=>aZ [(3,ms 20 g_ 2 aN x_.1),(13,vM aL e.kids),(14,vI (e.kids.length:Int)),(15,vI x_.2)] [(20,ar 82 g_ 2 aN x_.1)] [20]) 1 (lS) ?_
   rintro again4 ⟨x1,x2⟩ g3 h
   refine rq hC [] [16] [(16,vB (decide (x2<(e.kids.length:Int))))] [] [] (qs (aU h (fun c2 h=> ?_) (fun c2 h=> ?_)))
   ·refine qk (qs (qb ?_))
    obtain⟨x5,hx5,h⟩:=bd h
    refine rq hC [.z (.row (fD x5)),.z (.nat 21),oQ (iZ aL hx5 (eA x5))] [5,17,18] [(5,V.ref 21 0)] [(21,some (E.cells (f0 x5)))] [(21,true)] ?_
    obtain⟨x6,hx6,x7,hx7,h⟩:=d4 h
    exact rk hC [oC [] [22] (ih x5 hx6),.z (.at 2),.z (.fz 22 [21] []),oA (aM aN hx7),oQ (bZ (r:=aN) 2 lT x1),oQ (bZ (r:=aN) 2 lT x6)] [3,19,20,21,22] [(3,ms 20 (g3+1) 2 aN x7)] [(22,none),(20,some (ar 82 (g3+1) 2 aN x7))] [(22,true)] (rk hC [] [15,23] [(15,vI (wr (x2+1)))] [] [] ⟨(x7,wr (x2+1)),(g3+1),h,lS⟩)
   ·obtain rfl:=so h
    exact dL (rq hC [] [2,24] [(2,ms 20 g3 2 aN x1)] [] [] (qw (lk hC [.ren 2 20 0] [2] [(2,ms 0 1 2 aN x1)] [(0,some (ar 82 1 2 aN x1)),(20,none)] [(0,true)]) (qr eW)))
theorem m4(G:GS)(n:Nat)(s:List Access)(fF:FuncId)(fC0:List T)(fC1:List T)(f:Access→Option Bool)(hf: ∀(q0:Access) r,f q0=some r→PQ G fF [V.agg (dX q0),V.tp fC0,V.tp fC1] (vB r)){r:Int}(h:eK n s f=some r):PQ G 227 [vM aN s,V.fn fF [V.tp fC0,V.tp fC1]] (vI r):=by
 unfold eK at h
 refine pq aS Tryz.func227 rfl fun w X hC=> ?_
 refine rq hC [] [4] [] [] [] (qs (rq hC [oN aN s] [6,7,8] [(7,vI (s.length:Int)),(8,vI 0)] [] [] (qb (kJ h (fun x_=>aZ [(0,vM aN s),(1,V.fn fF [V.tp fC0,V.tp fC1]),(7,vI (s.length:Int)),(8,vI x_)] [] []) lS ?_))))
 rintro again2 x1 h
 refine rq hC [] [9] [(9,vB (decide (x1<(s.length:Int))))] [] [] (qs (aU h (fun c1 h=> ?_) (fun c1 h=> ?_)))
 ·refine qk (qs (qb (rq hC [] [5,10] [(5,vI x1)] [] [] ?_)))
  obtain⟨x3,hx3,x4,hx4,h⟩:=d4 h
  refine rq hC [oR aN hx3,oV (hf x3 _ hx4)] (fr 11 6) [(16,vB x4)] [] [] (aU h (fun c2 h=> ?_) (fun c2 h=> ?_))
  ·obtain rfl:=so h
   exact rq hC [] [4,17] [(4,vI x1)] [] [] (qr eR)
  ·exact qk (rk hC [] [8,18] [(8,vI (wr (x1+1)))] [] [] (lE h))
 ·obtain rfl:=so h
  exact dL (rq hC [] [4] [(4,vI (-1))] [] [] (qr eR))
theorem lL(G:GS)(n:Nat)(s:List Access)(fF:FuncId)(fC0:List T)(fC1:List T)(f:Access→Option Bool)(hf: ∀(q0:Access) r,f q0=some r→PQ G fF [V.agg (dX q0),V.tp fC0,V.tp fC1] (vB r)){r:Bool}(h:cJ n s f=some r):PQ G 171 [vM aN s,V.fn fF [V.tp fC0,V.tp fC1]] (vB r):=by
 unfold cJ at h
 refine pq aS Tryz.func171 rfl fun w X hC=> ?_
 refine rq hC [] [4] [] [] [] ?_
 obtain⟨x1,hx1,h⟩:=bd h
 obtain rfl:=so h
 exact rq hC [oV (m4 G n s fF fC0 fC1 f hf hx1)] (fr 4 5) [(4,vB (decide ((0:Int)≤x1)))] [] [] (qr eR)
theorem rK{p}{s}{point}{r}(h:eB n p s point=some r):PQ G 128 [V.agg (cO p),V.agg (fU s),vM rI point] (vB r):=by
 unfold eB at h
 refine pq aS Tryz.func128 rfl fun w X hC=> ?_
 refine rq hC [.z (.b (true)),.z (.b (true)),.z (.b (true))] (fr 3 4) [(3,V.tp (cD p)),(4,V.tp (qK s)),(5,V.tp [T.sl (List.map rI point)])] [] [] (vj h (fun x_=>aZ [(6,vB x_)] [] []) (fun j1 h=> ?_) (fun x5 h=> ?_))
 ·
  obtain⟨x2,hx2,h⟩:=bd h
  refine aT h (fun c1 h=> ?_) (fun c1 h=> ?_)
  ·exact rk hC ([oV (eE G hx2)]++rF 7 c1) (fr 6 15) [(6,vB false)] [] [] (lE h)
  ·obtain⟨x3,hx3,x4,hx4,h⟩:=d4 h
   exact rk hC ([oV (eE G hx2)]++rT 3 c1++[oC [] [20] (F5 G n s.value hx3),oT c1,oT c1,.z (.b (true)),oV (lL G n x3 172 (cD p) [T.sl (List.map rI point)] (fun q0=>cM n q0 p point) (fun q0 r h=>pN G n q0 p point h) hx4),oT c1,oT c1]) (fr 6 15) [(6,vB (!x4))] [(20,some (ar 82 1 2 aN x3))] [(20,true)] (lE h)
 ·obtain rfl:=so h
  exact qr eR
theorem dV{s}{r}(h:kO n s=some r):PQ G 162 [vS s] (vB r):=by
 unfold kO at h
 refine pq aS Tryz.func162 rfl fun w X hC=> ?_
 refine rq hC [] [2] [] [] [] (vj h (fun x_=>aZ [(2,vB x_)] [] []) (fun j1 h=> ?_) (fun x3 h=> ?_))
 ·
  refine aT h (fun c1 h=> ?_) (fun c1 h=> ?_)
  ·exact rk hC (rF 3 c1) (fr 2 8) [(2,vB false)] [] [] (lE h)
  ·obtain⟨x2,hx2,h⟩:=bd h
   exact rk hC [oT c1,oT c1,oV (G.contains [65,66,67,68] s x2 hx2),oT c1] (fr 2 8) [(2,vB x2)] [] [] (lE h)
 ·obtain rfl:=so h
  exact qr eR
theorem tI(G:GS)(n:Nat)(s:List Int)(fF:FuncId)(f:Int→Option Bool)(hf: ∀(q0:Int) r,f q0=some r→PQ G fF [vI q0] (vB r)){r:Int}(h:gB n s f=some r):PQ G 143 [vM rI s,V.fn fF []] (vI r):=by
 unfold gB at h
 refine pq aS Tryz.func143 rfl fun w X hC=> ?_
 refine rq hC [] [4] [] [] [] (qs (rq hC [oN rI s] [6,7,8] [(7,vI (s.length:Int)),(8,vI 0)] [] [] (qb (kJ h (fun x_=>aZ [(0,vM rI s),(1,V.fn fF []),(7,vI (s.length:Int)),(8,vI x_)] [] []) lS ?_))))
 rintro again2 x1 h
 refine rq hC [] [9] [(9,vB (decide (x1<(s.length:Int))))] [] [] (qs (aU h (fun c1 h=> ?_) (fun c1 h=> ?_)))
 ·refine qk (qs (qb (rq hC [] [5,10] [(5,vI x1)] [] [] ?_)))
  obtain⟨x3,hx3,x4,hx4,h⟩:=d4 h
  refine rq hC [oR rI hx3,oV (hf x3 _ hx4)] (fr 11 6) [(16,vB x4)] [] [] (aU h (fun c2 h=> ?_) (fun c2 h=> ?_))
  ·obtain rfl:=so h
   exact rq hC [] [4,17] [(4,vI x1)] [] [] (qr eR)
  ·exact qk (rk hC [] [8,18] [(8,vI (wr (x1+1)))] [] [] (lE h))
 ·obtain rfl:=so h
  exact dL (rq hC [] [4] [(4,vI (-1))] [] [] (qr eR))
theorem dU(G:GS)(n:Nat)(s:List Int)(fF:FuncId)(f:Int→Option Bool)(hf: ∀(q0:Int) r,f q0=some r→PQ G fF [vI q0] (vB r)){r:Bool}(h:bI n s f=some r):PQ G 163 [vM rI s,V.fn fF []] (vB r):=by
 unfold bI at h
 refine pq aS Tryz.func163 rfl fun w X hC=> ?_
 refine rq hC [] [4] [] [] [] ?_
 obtain⟨x1,hx1,h⟩:=bd h
 obtain rfl:=so h
 exact rq hC [oV (tI G n s fF f hf hx1)] (fr 4 5) [(4,vB (decide ((0:Int)≤x1)))] [] [] (qr eR)
theorem pM(G:GS)(n:Nat)(n_a0:Int){r:Bool}(h:dB n n_a0=some r):PQ G 164 [vI n_a0] (vB r):=by
 unfold dB at h
 refine pq aS Tryz.func164 rfl fun w X hC=> ?_
 refine rq hC [] [2] [] [] [] ?_
 obtain⟨x1,hx1,h⟩:=bd h
 obtain rfl:=so h
 exact rq hC [oV (bJ G hx1)] (fr 2 4) [(2,vB (!x1))] [] [] (qr eR)
theorem tJ{list}{r}(h:lG n list=some r):PQ G 122 [vM aI list] (vB r):=by
 unfold lG at h
 refine pq aS Tryz.func122 rfl fun w X hC=> ?_
 refine rq hC [] [2] [] [] [] (qs (rq hC [oN aI list] [5,6,7] [(5,vM aI list),(6,vI (list.length:Int)),(7,vI 0)] [] [] (qb (kJ h (fun x_=>aZ [(0,vM aI list),(5,vM aI list),(6,vI (list.length:Int)),(7,vI x_)] [] []) lS ?_))))
 rintro again2 x1 h
 refine rq hC [] [8] [(8,vB (decide (x1<(list.length:Int))))] [] [] (qs (aU h (fun c1 h=> ?_) (fun c1 h=> ?_)))
 ·refine qk (qs (qb ?_))
  obtain⟨x3,hx3,h⟩:=bd h
  refine rq hC [oR aI hx3,.z (.nat 20)] [3,4,9,10,11] [(3,vI x1),(4,V.ref 20 0)] [(20,sc [vS x3.name,vM rI x3.dims])] [(20,true)] (vj h (fun x_=>aZ [(0,vM aI list),(5,vM aI list),(6,vI (list.length:Int)),(7,vI x1),(42,vB x_)] [(20,E.cells [vS x3.name,vM rI x3.dims])] [20]) (fun j4 h=> ?_) (fun x11 h=> ?_))
  ·
   obtain⟨x5,hx5,h⟩:=bd h
   refine aT h (fun c2 h=> ?_) (fun c2 h=> ?_)
   ·refine aT h (fun c3 h=> ?_) (fun c3 h=> ?_)
    ·obtain⟨x6,hx6,h⟩:=bd h
     refine aT h (fun c4 h=> ?_) (fun c4 h=> ?_)
     ·obtain⟨x7,hx7,h⟩:=bd h
      exact dk hC bP ([oV (dV G hx5)]++rF 3 c2++rF 9 c3++[oF c2,oF c3,oF c2,eF,eF,eF,oN rI x3.dims,eF,oV (bJ G hx6),eF,eF]++rF 3 c4++[oV (dU G n x3.dims 164 (fun q0=>dB n q0) (fun q0 r h=>pM G n q0 h) hx7),oF c4]) (fr 12 31) [(42,vB x7)] [] [] (lE h)
     ·exact dk hC bP ([oV (dV G hx5)]++rF 3 c2++rF 9 c3++[oF c2,oF c3,oF c2,eF,eF,eF,oN rI x3.dims,eF,oV (bJ G hx6),eF,eF]++rT 4 c4) (fr 12 31) [(42,vB true)] [] [] (lE h)
    ·obtain⟨x8,hx8,h⟩:=bd h
     refine aT h (fun c5 h=> ?_) (fun c5 h=> ?_)
     ·obtain⟨x9,hx9,h⟩:=bd h
      refine aT h (fun c6 h=> ?_) (fun c6 h=> ?_)
      ·obtain⟨x10,hx10,h⟩:=bd h
       exact dk hC bP ([oV (dV G hx5)]++rF 3 c2++rT 4 c3++[oR aI hx8]++rT 5 c3++[oF c2,oT c3,oF c2]++rF 3 c5++[oN rI x3.dims,oF c5,oV (bJ G hx9),oF c5,oF c5]++rF 3 c6++[oV (dU G n x3.dims 164 (fun q0=>dB n q0) (fun q0 r h=>pM G n q0 h) hx10),oF c6]) (fr 12 31) [(42,vB x10)] [] [] (lE h)
      ·exact dk hC bP ([oV (dV G hx5)]++rF 3 c2++rT 4 c3++[oR aI hx8]++rT 5 c3++[oF c2,oT c3,oF c2]++rF 3 c5++[oN rI x3.dims,oF c5,oV (bJ G hx9),oF c5,oF c5]++rT 4 c6) (fr 12 31) [(42,vB true)] [] [] (lE h)
     ·exact dk hC bP ([oV (dV G hx5)]++rF 3 c2++rT 4 c3++[oR aI hx8]++rT 5 c3++[oF c2,oT c3,oF c2]++rT 6 c5++sT 4) (fr 12 31) [(42,vB true)] [] [] (lE h)
   ·exact dk hC bP ([oV (dV G hx5)]++rT 5 c2++sT 10) (fr 12 31) [(42,vB true)] [] [] (lE h)
  ·refine aU h (fun c7 h=> ?_) (fun c7 h=> ?_)
   ·obtain rfl:=so h
    exact rq hC [] [2] [(2,vB false)] [] [] (qr eR)
   ·exact qk (rk hC [] [7,43] [(7,vI (wr (x1+1)))] [] [] (lE h))
 ·obtain rfl:=so h
  exact dL (rq hC [oN aI list] [2,44,45,46] [(2,vB (decide ((list.length:Int)≤4)))] [] [] (qr eR))
theorem fT{a}{r}(h:dI n a=some r):PQ G 152 [V.agg (bC a)] (vI r):=by
 unfold dI at h
 refine pq aS Tryz.func152 rfl fun w X hC=> ?_
 refine rq hC [.z (.b (true))] [1,2] [(1,V.tp (bK a))] [] [] (rq hC [oN rI a.coefs] (fr 3 4) [(3,vI (a.coefs.length:Int))] [] [] (qs (qb (kJ h (fun x_=>aZ [(1,V.tp (bK a)),(3,vI x_)] [] []) lS ?_))))
 rintro again2 x1 h
 refine qs (vj h (fun x_=>aZ [(1,V.tp (bK a)),(3,vI x1),(17,vB x_)] [] []) (fun j3 h=> ?_) (fun x5 h=> ?_))
 ·
  refine aT h (fun c1 h=> ?_) (fun c1 h=> ?_)
  ·exact rk hC (rF 8 c1) (fr 7 11) [(17,vB false)] [] [] (lE h)
  ·obtain⟨x4,hx4,h⟩:=bd h
   exact rk hC (rT 5 c1++[oR rI hx4]++rT 3 c1) (fr 7 11) [(17,vB (decide (x4=0)))] [] [] (lE h)
 ·refine aU h (fun c2 h=> ?_) (fun c2 h=> ?_)
  ·exact qk (qb (rk hC [] [3,18,19] [(3,vI (wr (x1-1)))] [] [] (lE h)))
  ·obtain rfl:=so h
   exact dL (rq hC [] [2,20] [(2,vI x1)] [] [] (qr eR))
theorem vT{n_a0}{r}(h:qB n n_a0=some r):PQ G 261 [vI n_a0] (vB r):=by
 unfold qB at h
 refine pq aS Tryz.func261 rfl fun w X hC=> ?_
 refine rq hC [] [2] [] [] [] ?_
 obtain⟨x1,hx1,h⟩:=bd h
 obtain rfl:=so h
 exact rq hC [oV (bJ G hx1)] [2,3,4] [(2,vB x1)] [] [] (qr eR)
theorem tK(G:GS)(n:Nat)(c:Int){r:Bool}(h:dP n c=some r):PQ G 262 [vI c] (vB r):=by
 unfold dP at h
 refine pq aS Tryz.func262 rfl fun w X hC=> ?_
 refine rq hC [] [2] [] [] [] ?_
 obtain⟨x1,hx1,h⟩:=bd h
 obtain rfl:=so h
 exact rq hC [oV (bJ G hx1)] (fr 2 4) [(2,vB (!x1))] [] [] (qr eR)
theorem cX{a}{r}(h:dZ n a=some r):PQ G 223 [V.agg (bC a)] (vB r):=by
 unfold dZ at h
 refine pq aS Tryz.func223 rfl fun w X hC=> ?_
 refine rq hC [.z (.b (true))] [1,2] [(1,V.tp (bK a))] [] [] (vj h (fun x_=>aZ [(2,vB x_)] [] []) (fun j1 h=> ?_) (fun x4 h=> ?_))
 ·
  refine aT h (fun c1 h=> ?_) (fun c1 h=> ?_)
  ·exact rk hC ([oN rI a.coefs]++rF 4 c1++sF 5) (fr 2 16) [(2,vB false)] [] [] (lE h)
  ·obtain⟨x2,hx2,h⟩:=bd h
   refine aT h (fun c2 h=> ?_) (fun c2 h=> ?_)
   ·exact rk hC ([oN rI a.coefs]++rT 3 c1++[oV (vT G hx2),oT c1]++rF 5 c2) (fr 2 16) [(2,vB false)] [] [] (lE h)
   ·obtain⟨x3,hx3,h⟩:=bd h
    exact rk hC ([oN rI a.coefs]++rT 3 c1++[oV (vT G hx2),oT c1]++rT 3 c2++[oV (dU G n a.coefs 262 (fun q0=>dP n q0) (fun q0 r h=>tK G n q0 h) hx3),oT c2,oT c2]) (fr 2 16) [(2,vB (!x3))] [] [] (lE h)
 ·obtain rfl:=so h
  exact qr eR
theorem zO(G:GS)(n:Nat)(a:Affine)(c0__a1:Int){r:Bool}(h:eM n a c0__a1=some r):PQ G 260 [V.agg (bC a),V.tp [T.int .i64 c0__a1]] (vB r):=by
 unfold eM at h
 refine pq aS Tryz.func260 rfl fun w X hC=> ?_
 refine rq hC [.z (.b (true))] [2,3] [(2,V.tp (bK a))] [] [] (vj h (fun x_=>aZ [(3,vB x_)] [] []) (fun j1 h=> ?_) (fun x4 h=> ?_))
 ·
  obtain⟨x2,hx2,h⟩:=bd h
  refine aT h (fun c1 h=> ?_) (fun c1 h=> ?_)
  ·obtain⟨x3,hx3,h⟩:=bd h
   exact dk hC bP ([oV (cX G hx2),oF c1,oF c1,oV (fT G hx3)]++rF 3 c1) (fr 3 10) [(3,vB (decide (c0__a1<x3)))] [] [] (lE h)
  ·exact dk hC bP ([oV (cX G hx2)]++rT 5 c1) (fr 3 10) [(3,vB true)] [] [] (lE h)
 ·obtain rfl:=so h
  exact qr eR
theorem mZ(G:GS)(n:Nat)(s:List Affine)(fF:FuncId)(fC0:List T)(f:Affine→Option Bool)(hf: ∀(q0:Affine) r,f q0=some r→PQ G fF [V.agg (bC q0),V.tp fC0] (vB r)){r:Int}(h:eJ n s f=some r):PQ G 201 [vM aB s,V.fn fF [V.tp fC0]] (vI r):=by
 unfold eJ at h
 refine pq aS Tryz.func201 rfl fun w X hC=> ?_
 refine rq hC [] [4] [] [] [] (qs (rq hC [oN aB s] [6,7,8] [(7,vI (s.length:Int)),(8,vI 0)] [] [] (qb (kJ h (fun x_=>aZ [(0,vM aB s),(1,V.fn fF [V.tp fC0]),(7,vI (s.length:Int)),(8,vI x_)] [] []) lS ?_))))
 rintro again2 x1 h
 refine rq hC [] [9] [(9,vB (decide (x1<(s.length:Int))))] [] [] (qs (aU h (fun c1 h=> ?_) (fun c1 h=> ?_)))
 ·refine qk (qs (qb (rq hC [] [5,10] [(5,vI x1)] [] [] ?_)))
  obtain⟨x3,hx3,x4,hx4,h⟩:=d4 h
  refine rq hC [oR aB hx3,oV (hf x3 _ hx4)] (fr 11 6) [(16,vB x4)] [] [] (aU h (fun c2 h=> ?_) (fun c2 h=> ?_))
  ·obtain rfl:=so h
   exact rq hC [] [4,17] [(4,vI x1)] [] [] (qr eR)
  ·exact qk (rk hC [] [8,18] [(8,vI (wr (x1+1)))] [] [] (lE h))
 ·obtain rfl:=so h
  exact dL (rq hC [] [4] [(4,vI (-1))] [] [] (qr eR))
theorem fM(G:GS)(n:Nat)(s:List Affine)(fF:FuncId)(fC0:List T)(f:Affine→Option Bool)(hf: ∀(q0:Affine) r,f q0=some r→PQ G fF [V.agg (bC q0),V.tp fC0] (vB r)){r:Bool}(h:bW n s f=some r):PQ G 150 [vM aB s,V.fn fF [V.tp fC0]] (vB r):=by
 unfold bW at h
 refine pq aS Tryz.func150 rfl fun w X hC=> ?_
 refine rq hC [] [4] [] [] [] ?_
 obtain⟨x1,hx1,h⟩:=bd h
 obtain rfl:=so h
 exact rq hC [oV (mZ G n s fF fC0 f hf hx1)] (fr 4 5) [(4,vB (decide ((0:Int)≤x1)))] [] [] (qr eR)
theorem nZ{list}{depth}{r}(h:iS n list depth=some r):PQ G 220 [vM aB list,vI depth] (vB r):=by
 unfold iS at h
 refine pq aS Tryz.func220 rfl fun w X hC=> ?_
 refine rq hC [.z (.b (true))] [3,4] [(3,V.tp [T.int .i64 depth])] [] [] (vj h (fun x_=>aZ [(4,vB x_)] [] []) (fun j1 h=> ?_) (fun x4 h=> ?_))
 ·
  obtain⟨x2,hx2,h⟩:=bd h
  refine aT h (fun c1 h=> ?_) (fun c1 h=> ?_)
  ·exact rk hC ([oN aB list,oV (bJ G hx2)]++rF 5 c1) (fr 4 10) [(4,vB false)] [] [] (lE h)
  ·obtain⟨x3,hx3,h⟩:=bd h
   exact rk hC ([oN aB list,oV (bJ G hx2)]++rT 3 c1++[oV (fM G n list 260 [T.int .i64 depth] (fun q0=>eM n q0 depth) (fun q0 r h=>zO G n q0 depth h) hx3),oT c1,oT c1]) (fr 4 10) [(4,vB (!x3))] [] [] (lE h)
 ·obtain rfl:=so h
  exact qr eR
theorem B0{nest}{r}(h:jJ n nest=some r):PQ G 165 [vM aD nest] (vB r):=by
 unfold jJ at h
 refine pq aS Tryz.func165 rfl fun w X hC=> ?_
 refine rq hC [] [2] [] [] [] (qs (rq hC [oN aD nest] [5,6,7] [(5,vM aD nest),(6,vI (nest.length:Int)),(7,vI 0)] [] [] (qb (kJ h (fun x_=>aZ [(0,vM aD nest),(5,vM aD nest),(6,vI (nest.length:Int)),(7,vI x_)] [] []) lS ?_))))
 rintro again2 x1 h
 refine rq hC [] [8] [(8,vB (decide (x1<(nest.length:Int))))] [] [] (qs (aU h (fun c1 h=> ?_) (fun c1 h=> ?_)))
 ·refine qk (qs (qb ?_))
  obtain⟨x3,hx3,h⟩:=bd h
  refine rq hC [oR aD hx3,.z (.nat 20)] [3,4,9,10,11] [(3,vI x1),(4,V.ref 20 0)] [(20,some (E.cells (F6 x3)))] [(20,true)] (vj h (fun x_=>aZ [(0,vM aD nest),(5,vM aD nest),(6,vI (nest.length:Int)),(7,vI x1),(23,vB x_)] [(20,E.cells (F6 x3))] [20]) (fun j4 h=> ?_) (fun x7 h=> ?_))
  ·
   obtain⟨x5,hx5,h⟩:=bd h
   refine aT h (fun c2 h=> ?_) (fun c2 h=> ?_)
   ·obtain⟨x6,hx6,h⟩:=bd h
    exact rk hC ([oV (nZ G hx5)]++rF 4 c2++[oV (nZ G hx6),oF c2,oF c2]) (fr 12 12) [(23,vB (!x6))] [] [] (lE h)
   ·exact rk hC ([oV (nZ G hx5)]++rT 6 c2) (fr 12 12) [(23,vB true)] [] [] (lE h)
  ·refine aU h (fun c3 h=> ?_) (fun c3 h=> ?_)
   ·obtain rfl:=so h
    exact rq hC [] [2] [(2,vB false)] [] [] (qr eR)
   ·exact qk (rk hC [] [7,24] [(7,vI (wr (x1+1)))] [] [] (lE h))
 ·obtain rfl:=so h
  exact dL (rq hC [oN aD nest] [2,25,26,27] [(2,vB (decide ((nest.length:Int)≤4)))] [] [] (qr eR))
end Go.Lift
