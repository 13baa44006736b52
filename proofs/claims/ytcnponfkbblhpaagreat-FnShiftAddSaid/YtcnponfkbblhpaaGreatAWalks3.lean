/- The walks: the code computes what the plain functions say. -/
import Derived.Test.YtcnponfkbblhpaaGreatAModels
import Derived.Test.YtcnponfkbblhpaaGreatAWalks2
set_option maxRecDepth 10000
set_option linter.unusedVariables false
namespace Go.Lift
open Go Go.Proofs
variable (G:GS) {n:Nat}
theorem mA(G:GS)(n:Nat)(s1:List Arr)(s2:List Arr)(eqF:FuncId)(eq:Arr→Arr→Option Bool)(heq: ∀(q0:Arr) (q1:Arr) r,eq q0 q1=some r→PQ G eqF [V.agg [vS q0.name,vM rI q0.dims],V.agg [vS q1.name,vM rI q1.dims]] (vB r)){r:Bool}(h:gF n s1 s2 eq=some r):PQ G 71 [vM aK s1,vM aK s2,V.fn eqF []] (vB r):=by
 unfold gF at h
 refine pq aN Tryz.func71 rfl fun w X hC=> ?_
 refine rq hC [] [6] [] [] [] (qs (rq hC [oN aK s1,oN aK s2] (fr 10 5) [(14,vB (!decide ((s1.length:Int)=(s2.length:Int))))] [] [] (aT h (fun c1 h=> ?_) (fun c1 h=> ?_))))
 ·obtain rfl:=so h
  exact rq hC [] [6] [(6,vB false)] [] [] (qr eR)
 ·refine qk (qs (rq hC [oN aK s1] [15,16,17] [(15,vM aK s1),(16,vI (s1.length:Int)),(17,vI 0)] [] [] (qb (jA h (fun x_=>aY [(1,vM aK s2),(2,V.fn eqF []),(15,vM aK s1),(16,vI (s1.length:Int)),(17,vI x_)] [] []) lS ?_))))
  rintro again2 x1 h
  refine rq hC [] [18] [(18,vB (decide (x1<(s1.length:Int))))] [] [] (qs (aT h (fun c2 h=> ?_) (fun c2 h=> ?_)))
  ·refine qk (qs (qb ?_))
   obtain⟨x3,hx3,h⟩:=bd h
   refine rq hC [oR aK hx3,.z (.nat 20)] [7,8,19,20,21] [(7,vI x1),(8,V.ref 20 0)] [(20,sc [vS x3.name,vM rI x3.dims])] [(20,true)] ?_
   obtain⟨x4,hx4,h⟩:=bd h
   refine rq hC [oR aK hx4,.z (.nat 21)] [9,22,23,24,25] [(9,V.ref 21 0)] [(21,sc [vS x4.name,vM rI x4.dims])] [(21,true)] ?_
   obtain⟨x5,hx5,h⟩:=bd h
   refine rq hC [oV (heq x3 x4 _ hx5)] (fr 26 5) [(30,vB (!x5))] [] [] (aT h (fun c3 h=> ?_) (fun c3 h=> ?_))
   ·obtain rfl:=so h
    exact rq hC [] [6] [(6,vB false)] [] [] (qr eR)
   ·exact qk (rk hC [] [17,31] [(17,vI (wr (x1+1)))] [] [] (lE h))
  ·obtain rfl:=so h
   exact cQ (rq hC [] [6] [(6,vB true)] [] [] (qr eR))
theorem iU{a}{b}{r}(h:dE n a b=some r):PQ G 18 [V.agg (bJ a),V.agg (bJ b)] (vB r):=by
 unfold dE at h
 refine pq aN Tryz.func18 rfl fun w X hC=> ?_
 refine rq hC [.z (.b (true)),.z (.b (true))] [2,3,4] [(2,V.tp (cR a)),(3,V.tp (cR b))] [] [] (rq hC [] [5] [(5,V.fn 65 [])] [] [] (rq hC [] [6] [(6,V.fn 67 [])] [] [] (vj h (fun x_=>aY [(4,vB x_)] [] []) (fun j1 h=> ?_) (fun x4 h=> ?_))))
 ·
  obtain⟨x2,hx2,h⟩:=bd h
  refine aR h (fun c1 h=> ?_) (fun c1 h=> ?_)
  ·exact rk hC ([oV (mA G n a.arrays b.arrays 65 (fun q0 q1=>eH n q0 q1) (fun q0 q1 r h=>oD G n q0 q1 h) hx2)]++rF 7 c1) [4,7,8,9,10,11,12,13,14,15,16,17,18,19,20] [(4,vB false)] [] [] (lE h)
  ·obtain⟨x3,hx3,h⟩:=bd h
   exact rk hC ([oV (mA G n a.arrays b.arrays 65 (fun q0 q1=>eH n q0 q1) (fun q0 q1 r h=>oD G n q0 q1 h) hx2)]++rT 6 c1++[oV (uQ G n a.parts b.parts 67 (fun q0 q1=>eG n q0 q1) (fun q0 q1 r h=>wJ G n q0 q1 h) hx3),oT c1]) [4,7,8,9,10,11,12,13,14,15,16,17,18,19,20] [(4,vB x3)] [] [] (lE h)
 ·obtain rfl:=so h
  exact qr eR
theorem bL{r_a0}{n_a1}{r}(h:bF n r_a0 n_a1=some r):VQ G 178 [eL r_a0] [V.ref 0 0,vI n_a1] (vI r.1) [eL r.2]:=by
 unfold bF at h
 refine vq aN Tryz.func178 rfl fun w X β0 hC hg=> ?_
 refine rq hC [] [4] [] [] [] (rq hC [] (fr 7 8) [] [(0,sc [vM rY r_a0.b,vI (wr (r_a0.p+1))])] [] (qs (vj h (fun x_=>aY [(0,V.ref 0 0),(1,vI n_a1),(24,vB x_)] [(0,E.cells [vM rY r_a0.b,vI (wr (r_a0.p+1))])] [0]) (fun j1 h=> ?_) (fun x2 h=> ?_))))
 ·
  refine aR h (fun c1 h=> ?_) (fun c1 h=> ?_)
  ·exact rk hC (rF 5 c1++[oN rY r_a0.b,oF c1,oF c1]) (fr 15 10) [(24,vB (decide ((r_a0.b.length:Int)=0)))] [] [] (lE h)
  ·exact rk hC (rT 7 c1) (fr 15 10) [(24,vB true)] [] [] (lE h)
 ·refine aT h (fun c2 h=> ?_) (fun c2 h=> ?_)
  ·obtain rfl:=so h
   exact rq hC [] [4] [(4,vI 0)] [] [] (qr eW)
  ·refine qk (rq hC [] [5,25,26,27,28,29] [(5,vI (wr ((wr (r_a0.p+1))-1)))] [] [] (qs (rq hC [oN rY r_a0.b] (fr 30 7) [(36,vB (decide (wr ((wr (r_a0.p+1))-1)<(r_a0.b.length:Int))))] [] [] (aT h (fun c3 h=> ?_) (fun c3 h=> ?_)))))
   ·obtain⟨x3,hx3,x4,hx4,h⟩:=cT h
    obtain rfl:=so h
    exact rq hC [oR rY hx3,.z (.int (x3.toNat:Int)),oQ (u8i x3),oQ (C0 hx4)] [4,37,38,39,40,41,42,43,44,45,46] [(4,vI (Int.tmod (x3.toNat:Int) n_a1))] [] [] (qr eW)
   ·refine qk (qs ?_)
    obtain⟨x5,hx5,x6,hx6,x7,hx7,h⟩:=kH h
    obtain⟨x8,hx8,x9,hx9,h⟩:=cT h
    refine dk hC bD [oN rY r_a0.b,oQ (C0 hx5),oR rY hx6,.z (.int (x6.toNat:Int)),oQ (u8i x6),oN rY r_a0.b,oQ (C0 hx7),oR rY hx8,.z (.int (x8.toNat:Int)),oQ (u8i x8),oN rY r_a0.b,oQ (C0 hx9)] [6,47,48,49,50,51,52,53,54,55,56,57,58,59,60,61,62,63,64,65,66,67,68,69,70,71,72,73,74,75,76,77,78,79,80,81,82,83,84,85,86,87,88,89,90,91] [(6,vI (wr ((wr ((wr ((wr ((x6.toNat:Int)*131))+(wr ((x8.toNat:Int)*1117))))+(wr ((wr ((wr (r_a0.p+1))-1))*29))))+(wr ((wr (Int.tdiv (wr ((wr (r_a0.p+1))-1)) (r_a0.b.length:Int)))*53)))))] [] [] (rq hC [oQ (show(64:Int)≠0 by decide)] [6,92,93,94,95] [(6,vI (bits BinOp.xor IntKind.i64 (wr ((wr ((wr ((wr ((x6.toNat:Int)*131))+(wr ((x8.toNat:Int)*1117))))+(wr ((wr ((wr (r_a0.p+1))-1))*29))))+(wr ((wr (Int.tdiv (wr ((wr (r_a0.p+1))-1)) (r_a0.b.length:Int)))*53)))) (wr (Int.tdiv (wr ((wr ((wr ((wr ((x6.toNat:Int)*131))+(wr ((x8.toNat:Int)*1117))))+(wr ((wr ((wr (r_a0.p+1))-1))*29))))+(wr ((wr (Int.tdiv (wr ((wr (r_a0.p+1))-1)) (r_a0.b.length:Int)))*53)))) 64))))] [] [] ?_)
    obtain⟨x10,hx10,h⟩:=bd h
    obtain rfl:=so h
    exact rq hC [oQ (C0 hx10)] [4,96,97,98] [(4,vI (Int.tmod (bits BinOp.xor IntKind.i64 (wr ((wr ((wr ((wr ((x6.toNat:Int)*131))+(wr ((x8.toNat:Int)*1117))))+(wr ((wr ((wr (r_a0.p+1))-1))*29))))+(wr ((wr (Int.tdiv (wr ((wr (r_a0.p+1))-1)) (r_a0.b.length:Int)))*53)))) (wr (Int.tdiv (wr ((wr ((wr ((wr ((x6.toNat:Int)*131))+(wr ((x8.toNat:Int)*1117))))+(wr ((wr ((wr (r_a0.p+1))-1))*29))))+(wr ((wr (Int.tdiv (wr ((wr (r_a0.p+1))-1)) (r_a0.b.length:Int)))*53)))) 64))) n_a1))] [] [] (qr eW)
theorem bA{r_a0}{list}{r}(h:aX n r_a0 list=some r):VQ G 120 [eL r_a0] [V.ref 0 0,vM rI list] (vI r.1) [eL r.2]:=by
 unfold aX at h
 refine vq aN Tryz.func120 rfl fun w X β0 hC hg=> ?_
 refine rq hC [] [4] [] [] [] ?_
 obtain⟨x1,hx1,x2,hx2,h⟩:=cT h
 obtain rfl:=so h
 exact rq hC [oN rI list,oC [0] [] (bL G hx1),oR rI hx2] (fr 4 8) [(4,vI x2)] [(0,sR x1.2)] [(0,true)] (qr eW)
theorem mM{r_a0}{list}{r}(h:fK n r_a0 list=some r):VQ G 179 [eL r_a0] [V.ref 0 0,vM rS list] (vS r.1) [eL r.2]:=by
 unfold fK at h
 refine vq aN Tryz.func179 rfl fun w X β0 hC hg=> ?_
 refine rq hC [] [4] [] [] [] ?_
 obtain⟨x1,hx1,x2,hx2,h⟩:=cT h
 obtain rfl:=so h
 exact rq hC [oN rS list,oC [0] [] (bL G hx1),oR rS hx2] (fr 4 8) [(4,vS x2)] [(0,sR x1.2)] [(0,true)] (qr eW)
theorem qQ{r_a0}{nest}{r}(h:iZ n r_a0 nest=some r):VQ G 180 [eL r_a0] [V.ref 0 0,vM aC nest] (ms 1 1 2 aC r.1) [eL r.2,ar 56 1 2 aC r.1]:=by
 unfold iZ at h
 refine vq aN Tryz.func180 rfl fun w X β0 hC hg=> ?_
 refine rq hC [] [4] [] [] [] ?_
 obtain⟨x1,hx1,h⟩:=bd h
 refine rq hC [oC [] [20] (H3 G hx1)] [5,7,8] [(5,ms 20 1 2 aC x1)] [(20,some (E.tree l4 0 1 (List.map aC x1) []))] [(20,true)] (rq hC [oN aC x1] [6,9,10] [(6,vI (x1.length:Int))] [] [] (qs (rq hC [] [11,12] [(12,vB (decide ((x1.length:Int)=0)))] [] [] (aT h (fun c1 h=> ?_) (fun c1 h=> ?_)))))
 ·obtain rfl:=so h
  exact rq hC [] [4,13] [(4,ms 20 1 2 aC x1)] [] [] (qw (lk hC [.shd 20,.ren 4 20 1] [4] [(4,ms 1 1 2 aC x1)] [(20,none),(1,some (ar 56 1 2 aC x1))] [(1,true)]) (qr eW))
 ·refine qk ?_
  obtain⟨j2,hj2,h⟩:=J7 h
  refine m5 (γ:=Nat) (j:=j2) (r:=r) (fun x_ g_=>aY [(5,ms 20 g_ 2 aC x_.2.2)] [(0,E.cells [vM rY x_.1,vI x_.2.1]),(20,ar 56 g_ 2 aC x_.2.2)] [0,20]) ?_ ?_
  ·
   obtain⟨x3,hx3,h⟩:=bd h
   refine rq hC [oC [0] [] (bL G hx3)] [14,15] [(15,vI x3.1)] [(0,sR x3.2)] [(0,true)] (qb (rq hC [] [16,17] [(16,vB (decide (x3.1=0)))] [] [] (aT h (fun c2 h=> ?_) (fun c2 h=> ?_))))
   ·obtain⟨x4,hx4,h⟩:=bd h
    refine qw (xA hC [.foc 20 21 (0+Int.toNat 0) 0 (aC x4),.shd 21] [] [] [(20,some (E.tree l4 0 1 (List.map aC x1) [((0+Int.toNat 0),0,ms 21 1 2 aA x4.lo)])),(21,some (ar 63 1 2 aA x4.lo))] [(21,true)] (a1 (tN aC hx4)) (by kernel_rfl)) ?_
    obtain⟨x5,hx5,x6,hx6,x7,hx7,h⟩:=kH h
    refine dk hC bD [oQ (kS aC hx4),oX aC hx4,oC [0] [] (bL G hx5),oC [] [22] (mZ G hx6),.z (.at 5),.z (.fz 22 [25] []),.z (.int 0),oA (aO aA hx7),oQ (bO (r:=aA) 2 aS x4.lo),oQ (bO (r:=aA) 2 aS [x6]),oQ (kS aC hx4),oX aC hx4] (fr 18 12) [] [(0,sR x5.2),(22,none),(21,some (ar 63 2 2 aA x7)),(20,some (E.tree l4 0 1 (List.map aC x1) [((0+Int.toNat 0),0,ms 21 2 2 aA x7)]))] [(0,true),(22,true)] ?_
    obtain⟨x8,hx8,h⟩:=bd h
    exact⟨(x5.2.b,x5.2.p,x8),1,h,((xA hC [.tre 21 l4 1,.unf 20 21 (aC x4) (List.map aC x8),.len 5 (List.map aC x8).length] [5] [(5,ms 20 1 2 aC x8)] [(21,none),(20,some (E.tree l4 0 1 (List.map aC x8) []))] [] (a5 (Eq.refl (List.map aA x7).length) (Eq.refl l4) (tN aC hx4) (yR aC hx8 rfl) (iH aC hx8)) (by kernel_rfl)).trans ((lk hC [.shd 20] [] [] [(20,some (ar 56 1 2 aC x8))] []).trans (lS)))⟩
   ·refine rq hC [] [30,31] [(30,vB (decide (x3.1=1)))] [] [] (aT h (fun c3 h=> ?_) (fun c3 h=> ?_))
    ·refine qw (lk hC [.shd 20] [] [] [(20,some (ar 56 1 2 aC x1))] []) ?_
     obtain⟨x9,hx9,x10,hx10,h⟩:=cT h
     exact rk hC [oQ (kS aC hx9),oX aC hx9,.z (.rows (List.map aC x10)),.z (.len 5 (List.map aC x10).length),oQ (str aC hx10),oQ (iH aC hx10)] [5,32,33,34,35,36] [(5,ms 20 1 2 aC x10)] [(20,some (ar 56 1 2 aC x10))] [] ⟨(x3.2.b,x3.2.p,x10),1,h,lS⟩
    ·refine rq hC [] [37,38] [(37,vB (decide (x3.1=2)))] [] [] (aT h (fun c4 h=> ?_) (fun c4 h=> ?_))
     ·obtain⟨x11,hx11,h⟩:=bd h
      refine qw (xA hC [.foc 20 21 (0+Int.toNat (wr ((x1.length:Int)-1))) 1 (aC x11),.shd 21] [] [] [(20,some (E.tree l4 0 1 (List.map aC x1) [((0+Int.toNat (wr ((x1.length:Int)-1))),1,ms 21 1 2 aA x11.hi)])),(21,some (ar 63 1 2 aA x11.hi))] [(21,true)] (a1 (tN aC hx11)) (by kernel_rfl)) ?_
      obtain⟨x12,hx12,x13,hx13,x14,hx14,h⟩:=kH h
      refine dk hC bD [oQ (kS aC hx11),oX aC hx11,oC [] [22] (cM G hx12),oC [] [23] (cM G hx13),.z (.at 5),.z (.fz 22 [48] []),.z (.at 5),.z (.fz 23 [49] []),.z (.int 0),oA (aO aA hx14),oQ (bO (r:=aA) 2 aS x11.hi),oQ (bO (r:=aA) 2 aS [x12,x13]),oQ (kS aC hx11),oX aC hx11] (fr 39 15) [] [(22,none),(23,none),(21,some (ar 63 2 2 aA x14)),(20,some (E.tree l4 0 1 (List.map aC x1) [((0+Int.toNat (wr ((x1.length:Int)-1))),1,ms 21 2 2 aA x14)]))] [(22,true),(23,true)] ?_
      obtain⟨x15,hx15,h⟩:=bd h
      exact⟨(x3.2.b,x3.2.p,x15),1,h,((xA hC [.tre 21 l4 1,.unf 20 21 (aC x11) (List.map aC x15),.len 5 (List.map aC x15).length] [5] [(5,ms 20 1 2 aC x15)] [(21,none),(20,some (E.tree l4 0 1 (List.map aC x15) []))] [] (a5 (Eq.refl (List.map aA x14).length) (Eq.refl l4) (tN aC hx11) (yR aC hx15 rfl) (iH aC hx15)) (by kernel_rfl)).trans ((lk hC [.shd 20] [] [] [(20,some (ar 56 1 2 aC x15))] []).trans (lS)))⟩
     ·refine rq hC [] [54,55] [(54,vB (decide (x3.1=3)))] [] [] (aT h (fun c5 h=> ?_) (fun c5 h=> ?_))
      ·refine qw (lk hC [.shd 20] [] [] [(20,some (ar 56 1 2 aC x1))] []) ?_
       obtain⟨x16,hx16,x17,hx17,x18,hx18,h⟩:=kH h
       exact rk hC [oC [] [21] (cM G hx16),.z (.at 4),.z (.fz 21 [57] []),.z (.int 1),.z (.nat 22),.z (.at 1),.z (.fz 22 [58] []),oQ (kS aC hx17),oX aC hx17,.z (.rows (List.map aC x18)),.z (.len 5 (List.map aC x18).length),oQ (str aC hx18),oQ (iH aC hx18)] [5,56,57,58,59,60] [(5,ms 20 1 2 aC x18)] [(21,none),(22,none),(20,some (ar 56 1 2 aC x18))] [(21,true),(22,true)] ⟨(x3.2.b,x3.2.p,x18),1,h,lS⟩
      ·refine rq hC [] [61,62] [(61,vB (decide (x3.1=4)))] [] [] (aT h (fun c6 h=> ?_) (fun c6 h=> ?_))
       ·refine qb (qw (lk hC [.shd 20] [] [] [(20,some (ar 56 1 2 aC x1))] []) (bC (γ:=Nat) h (fun x_ g_=>aY [(5,ms 20 g_ 2 aC x_)] [(0,eL x3.2),(20,ar 56 g_ 2 aC x_)] [0,20]) 1 (lS) ?_))
        rintro again21 x19 g20 h
        refine qs (rq hC [oN aC x19] [63,64,65] [(65,vB (decide ((x19.length:Int)≤4)))] [] [] (aT h (fun c7 h=> ?_) (fun c7 h=> ?_)))
        ·refine qk (qb ?_)
         obtain⟨x22,hx22,x23,hx23,h⟩:=cT h
         exact rk hC [oQ (kS aC hx22),oX aC hx22,.z (.int 0),oA (aO aC hx23),oQ (bO (r:=aC) 2 bU x19),oQ (bO (r:=aC) 2 bU [x22])] [5,66,67,68,69,70,71] [(5,ms 20 (g20+1) 2 aC x23)] [(20,some (ar 56 (g20+1) 2 aC x23))] [] ⟨x23,(g20+1),h,lS⟩
        ·exact cQ ⟨(x3.2.b,x3.2.p,x19),g20,h,lS⟩
       ·exact qk ⟨(x3.2.b,x3.2.p,x1),1,h,((lk hC [.shd 20] [] [] [(20,some (ar 56 1 2 aC x1))] []).trans (lS))⟩
  ·rintro⟨x24,x25,x26⟩ g27 h
   subst hj2
   obtain rfl:=so h
   exact rq hC [] [4,72] [(4,ms 20 g27 2 aC x26)] [] [] (qw (lk hC [.ren 4 20 1] [4] [(4,ms 1 1 2 aC x26)] [(1,some (ar 56 1 2 aC x26)),(20,none)] [(1,true)]) (qr eW))
theorem qO{r_a0}{s}{r}(h:iY n r_a0 s=some r):VQ G 181 [eL r_a0] [V.ref 0 0,V.agg (cV s)] (V.agg (cV r.1)) [eL r.2]:=by
 unfold iY at h
 refine vq aN Tryz.func181 rfl fun w X β0 hC hg=> ?_
 refine rq hC [.z (.b (true)),.z (.nat 20)] [3,4] [(3,V.tp (m7 s)),(4,V.ref 20 0)] [(20,sc [vS [],V.t T.nilS,vI 0,vI 0,V.t T.nilS,vI 0,vS [],V.t T.nilS,V.t T.nilS])] [(20,true)] ?_
 obtain⟨x1,hx1,h⟩:=bd h
 refine rq hC [oC [] [21,22,23,24] (H2 G hx1),.z (.nat 25)] [5,6,7] [(5,V.ref 25 0)] [(21,some (ar 63 1 2 aA x1.write.subs)),(22,some (ar 3 1 1 rI x1.value.index.coefs)),(23,some (ar 63 1 2 aA x1.value.read.subs)),(24,some (ar 84 1 7 aH x1.value.kids)),(25,sc [vS x1.write.array,ms 21 1 2 aA x1.write.subs,vI x1.value.kind,vI x1.value.num,ms 22 1 1 rI x1.value.index.coefs,vI x1.value.index.const,vS x1.value.read.array,ms 23 1 2 aA x1.value.read.subs,ms 24 1 7 aH x1.value.kids])] [(21,true),(22,true),(23,true),(24,true),(25,true)] ?_
 obtain⟨j2,hj2,h⟩:=J7 h
 refine m5 (γ:=Nat×Nat) (j:=j2) (r:=r) (fun x_ g_=>aY [(4,V.ref 20 0),(5,V.ref 25 0)] [(0,E.cells [vM rY x_.1,vI x_.2.1]),(20,E.cells [vS [],V.t T.nilS,vI 0,vI 0,V.t T.nilS,vI 0,vS [],V.t T.nilS,V.t T.nilS]),(21,ar 63 g_.1 2 aA x_.2.2.1),(22,ar 3 1 1 rI x1.value.index.coefs),(23,ar 63 1 2 aA x1.value.read.subs),(24,ar 84 g_.2 7 aH x_.2.2.2.1),(25,E.cells [vS x_.2.2.2.2.1,ms 21 g_.1 2 aA x_.2.2.1,vI x_.2.2.2.2.2.1,vI x_.2.2.2.2.2.2,ms 22 1 1 rI x1.value.index.coefs,vI x1.value.index.const,vS x1.value.read.array,ms 23 1 2 aA x1.value.read.subs,ms 24 g_.2 7 aH x_.2.2.2.1])] [0,20,21,22,23,24,25]) ?_ ?_
 ·
  obtain⟨x3,hx3,h⟩:=bd h
  refine rq hC [oC [0] [] (bL G hx3)] [8,9] [(9,vI x3.1)] [(0,sR x3.2)] [(0,true)] (qb (rq hC [] [10,11] [(10,vB (decide (x3.1=0)))] [] [] (aT h (fun c1 h=> ?_) (fun c1 h=> ?_))))
  ·obtain⟨x4,hx4,h⟩:=bd h
   exact rk hC [.z (.int 0),oC [0] [] (mM G hx4)] (fr 12 5) [] [(0,sR x4.2),(25,sc [vS x4.1,ms 21 1 2 aA x1.write.subs,vI x1.value.kind,vI x1.value.num,ms 22 1 1 rI x1.value.index.coefs,vI x1.value.index.const,vS x1.value.read.array,ms 23 1 2 aA x1.value.read.subs,ms 24 1 7 aH x1.value.kids])] [(0,true)] ⟨(x4.2.b,x4.2.p,x1.write.subs,x1.value.kids,x4.1,x1.value.kind,x1.value.num),(1,1),h,lS⟩
  ·refine rq hC [] [17,18] [(17,vB (decide (x3.1=1)))] [] [] (aT h (fun c2 h=> ?_) (fun c2 h=> ?_))
   ·obtain⟨x5,hx5,x6,hx6,x7,hx7,h⟩:=kH h
    exact dk hC bD [oC [] [26] (mZ G hx5),oC [] [27] (lC G n hx6),.z (.at 5),.z (.fz 26 [22] []),.z (.at 5),.z (.fz 27 [23] []),.z (.int 0),oA (aO aA hx7),oQ (bO (r:=aA) 2 aS x1.write.subs),oQ (bO (r:=aA) 2 aS [x5,x6])] (fr 19 9) [] [(26,none),(27,none),(21,some (ar 63 2 2 aA x7)),(25,sc [vS x1.write.array,ms 21 2 2 aA x7,vI x1.value.kind,vI x1.value.num,ms 22 1 1 rI x1.value.index.coefs,vI x1.value.index.const,vS x1.value.read.array,ms 23 1 2 aA x1.value.read.subs,ms 24 1 7 aH x1.value.kids])] [(26,true),(27,true)] ⟨(x3.2.b,x3.2.p,x7,x1.value.kids,x1.write.array,x1.value.kind,x1.value.num),(2,1),h,lS⟩
   ·refine rq hC [] [28,29] [(28,vB (decide (x3.1=2)))] [] [] (aT h (fun c3 h=> ?_) (fun c3 h=> ?_))
    ·obtain⟨x8,hx8,h⟩:=bd h
     exact rk hC [.z (.int 0),oC [0] [] (bA G hx8)] (fr 30 5) [] [(0,sR x8.2),(25,sc [vS x1.write.array,ms 21 1 2 aA x1.write.subs,vI x8.1,vI x1.value.num,ms 22 1 1 rI x1.value.index.coefs,vI x1.value.index.const,vS x1.value.read.array,ms 23 1 2 aA x1.value.read.subs,ms 24 1 7 aH x1.value.kids])] [(0,true)] ⟨(x8.2.b,x8.2.p,x1.write.subs,x1.value.kids,x1.write.array,x8.1,x1.value.num),(1,1),h,lS⟩
    ·refine rq hC [] [35,36] [(35,vB (decide (x3.1=3)))] [] [] (aT h (fun c4 h=> ?_) (fun c4 h=> ?_))
     ·obtain⟨x9,hx9,h⟩:=bd h
      exact rk hC [.z (.int 0),oC [0] [] (bA G hx9)] (fr 37 5) [] [(0,sR x9.2),(25,sc [vS x1.write.array,ms 21 1 2 aA x1.write.subs,vI x1.value.kind,vI x9.1,ms 22 1 1 rI x1.value.index.coefs,vI x1.value.index.const,vS x1.value.read.array,ms 23 1 2 aA x1.value.read.subs,ms 24 1 7 aH x1.value.kids])] [(0,true)] ⟨(x9.2.b,x9.2.p,x1.write.subs,x1.value.kids,x1.write.array,x1.value.kind,x9.1),(1,1),h,lS⟩
     ·refine rq hC [] [42,43] [(42,vB (decide (x3.1=4)))] [] [] (aT h (fun c5 h=> ?_) (fun c5 h=> ?_))
      ·obtain⟨x10,hx10,h⟩:=bd h
       exact rk hC [.z (.int 2),.z (.rows (List.map aH [(⟨1,0,(⟨[],0⟩:Affine),(⟨[],[]⟩:Access),[]⟩:Expr)])),oQ (qM (⟨1,0,(⟨[],0⟩:Affine),(⟨[],[]⟩:Access),[]⟩:Expr)),oA (aO aH hx10),oQ (bO (r:=aH) 7 dJ x1.value.kids),oQ (bO (r:=aH) 7 dJ [(⟨1,0,(⟨[],0⟩:Affine),(⟨[],[]⟩:Access),[]⟩:Expr)])] (fr 44 8) [] [(24,some (ar 84 2 7 aH x10)),(25,sc [vS x1.write.array,ms 21 1 2 aA x1.write.subs,vI x1.value.kind,vI x1.value.num,ms 22 1 1 rI x1.value.index.coefs,vI x1.value.index.const,vS x1.value.read.array,ms 23 1 2 aA x1.value.read.subs,ms 24 2 7 aH x10])] [] ⟨(x3.2.b,x3.2.p,x1.write.subs,x10,x1.write.array,x1.value.kind,x1.value.num),(1,2),h,lS⟩
      ·exact qk ⟨(x3.2.b,x3.2.p,x1.write.subs,x1.value.kids,x1.write.array,x1.value.kind,x1.value.num),(1,1),h,lS⟩
 ·rintro⟨x11,x12,x13,x14,x15,x16,x17⟩ ⟨g18,g19⟩ h
  subst hj2
  obtain rfl:=so h
  exact rq hC [.z (.at 2),.z (.fz 21 [] [25]),.z (.at 2),.z (.fz 22 [] [25]),.z (.at 2),.z (.fz 23 [] [25]),.z (.at 2),.z (.fz 24 [] [25])] [52] [] [(25,sc [vS x15,vM aA x13,vI x16,vI x17,vM rI x1.value.index.coefs,vI x1.value.index.const,vS x1.value.read.array,vM aA x1.value.read.subs,vM aH x14]),(21,none),(22,none),(23,none),(24,none),(20,sc [vS x15,vM aA x13,vI x16,vI x17,vM rI x1.value.index.coefs,vI x1.value.index.const,vS x1.value.read.array,vM aA x1.value.read.subs,vM aH x14])] [] (qr eW)
theorem U8{r_a0}{p}{r}(h:nA n r_a0 p=some r):VQ G 118 [eL r_a0] [V.ref 0 0,V.agg (bJ p)] (V.agg (bJ r.1)) [eL r.2]:=by
 unfold nA at h
 refine vq aN Tryz.func118 rfl fun w X β0 hC hg=> ?_
 refine rq hC [.z (.b (true)),.z (.nat 20)] [3,4] [(3,V.tp (cR p)),(4,V.ref 20 0)] [(20,sc [V.t T.nilS,V.t T.nilS])] [(20,true)] ?_
 obtain⟨x1,hx1,h⟩:=bd h
 refine rq hC [oC [] [21,22] (uH G hx1),.z (.nat 23)] [5,7,8] [(5,V.ref 23 0)] [(21,some (ar 76 1 2 aK x1.arrays)),(22,some (E.tree l4 2 1 (List.map aD x1.parts) [])),(23,sc [ms 21 1 2 aK x1.arrays,ms 22 1 2 aD x1.parts])] [(21,true),(22,true),(23,true)] (rq hC [oN aD x1.parts] [6,9,10,11] [(6,vI (x1.parts.length:Int))] [] [] ?_)
 obtain⟨j2,hj2,h⟩:=J7 h
 refine m5 (γ:=Nat) (j:=j2) (r:=r) (fun x_ g_=>aY [(4,V.ref 20 0),(5,V.ref 23 0)] [(0,E.cells [vM rY x_.1,vI x_.2.1]),(20,E.cells [V.t T.nilS,V.t T.nilS]),(21,ar 76 g_ 2 aK x_.2.2.1),(22,ar 60 1 2 aD x_.2.2.2),(23,E.cells [ms 21 g_ 2 aK x_.2.2.1,ms 22 1 2 aD x_.2.2.2])] [0,20,21,22,23]) ?_ ?_
 ·
  obtain⟨x3,hx3,h⟩:=bd h
  refine rq hC [oC [0] [] (bL G hx3)] [12,13] [(13,vI x3.1)] [(0,sR x3.2)] [(0,true)] (qb (rq hC [] [14,15] [(14,vB (decide (x3.1=0)))] [] [] (aT h (fun c1 h=> ?_) (fun c1 h=> ?_))))
  ·obtain⟨x4,hx4,x5,hx5,x6,hx6,h⟩:=kH h
   exact dk hC bD [.z (.int 0),oC [0] [] (mM G hx4),.z (.int 0),oC [0] [] (bA G hx5),.z (.int 0),.z (.int 0),oA (aO aK hx6),oQ (bO (r:=aK) 2 fU x1.arrays),oQ (bO (r:=aK) 2 fU [(⟨x4.1,[x5.1]⟩:Arr)])] (fr 16 13) [] [(0,sR x5.2),(21,some (ar 76 2 2 aK x6)),(23,sc [ms 21 2 2 aK x6,ms 22 1 2 aD x1.parts])] [(0,true),(0,true)] ⟨(x5.2.b,x5.2.p,x6,x1.parts),2,h,((lk hC [.shd 22] [] [] [(22,some (ar 60 1 2 aD x1.parts))] []).trans (lS))⟩
  ·refine rq hC [] [29,30] [(29,vB (decide (x3.1=1)))] [] [] (aT h (fun c2 h=> ?_) (fun c2 h=> ?_))
   ·refine rq hC [oN aK x1.arrays] (fr 31 4) [(34,vB (decide ((0:Int)<(x1.arrays.length:Int))))] [] [] (aT h (fun c3 h=> ?_) (fun c3 h=> ?_))
    ·obtain⟨x7,hx7,x8,hx8,x9,hx9,h⟩:=kH h
     exact dk hC bD [.z (.int 0),oC [0] [] (bA G hx7),.z (.int 0),oQ (kS aK hx8),oX aK hx8,.z (.rows (List.map aK x9)),oQ (str aK hx9)] (fr 35 8) [] [(0,sR x7.2),(21,some (ar 76 1 2 aK x9))] [(0,true)] ⟨(x7.2.b,x7.2.p,x9,x1.parts),1,h,((xA hC [.lenc 23 0 (List.map aK x9).length] [] [] [(23,sc [ms 21 1 2 aK x9,ms 22 1 2 aD x1.parts])] [] (a1 (iH aK hx9)) (by kernel_rfl)).trans ((lk hC [.shd 22] [] [] [(22,some (ar 60 1 2 aD x1.parts))] []).trans (lS)))⟩
    ·exact qk ⟨(x3.2.b,x3.2.p,x1.arrays,x1.parts),1,h,((lk hC [.shd 22] [] [] [(22,some (ar 60 1 2 aD x1.parts))] []).trans (lS))⟩
   ·refine rq hC [] [43,44] [(43,vB (decide (x3.1=2)))] [] [] (aT h (fun c4 h=> ?_) (fun c4 h=> ?_))
    ·refine rq hC [] [45,46] [(46,vB (decide ((0:Int)<(x1.parts.length:Int))))] [] [] (aT h (fun c5 h=> ?_) (fun c5 h=> ?_))
     ·refine qw (lk hC [.shd 22] [] [] [(22,some (ar 60 1 2 aD x1.parts))] []) ?_
      obtain⟨x10,hx10,x11,hx11,x12,hx12,h⟩:=kH h
      obtain⟨x13,hx13,x14,hx14,h⟩:=cT h
      exact dk hC bD [oQ (kS aD hx10),oX aD hx10,oC [0] [24] (qQ G hx11),.z (.at 5),.z (.fz 24 [57] []),oC [0] [25] (qQ G hx12),.z (.at 4),.z (.fz 25 [58] []),oC [0] [26] (qQ G hx13),.z (.at 1),.z (.fz 26 [59] []),oQ (kS aD hx10),oX aD hx10,.z (.rows (List.map aD x14)),oQ (str aD hx14)] (fr 47 15) [] [(24,none),(0,sR x13.2),(25,none),(26,none),(22,some (ar 60 1 2 aD x14))] [(0,true),(24,true),(0,true),(25,true),(0,true),(26,true)] ⟨(x13.2.b,x13.2.p,x1.arrays,x14),1,h,((xA hC [.lenc 23 1 (List.map aD x14).length] [] [] [(23,sc [ms 21 1 2 aK x1.arrays,ms 22 1 2 aD x14])] [] (a1 (iH aD hx14)) (by kernel_rfl)).trans (lS))⟩
     ·exact qk ⟨(x3.2.b,x3.2.p,x1.arrays,x1.parts),1,h,((lk hC [.shd 22] [] [] [(22,some (ar 60 1 2 aD x1.parts))] []).trans (lS))⟩
    ·refine rq hC [] [62,63] [(62,vB (decide (x3.1=3)))] [] [] (aT h (fun c6 h=> ?_) (fun c6 h=> ?_))
     ·refine vj h (fun x_=>aY [(0,V.ref 0 0),(4,V.ref 20 0),(5,V.ref 23 0),(6,vI (x1.parts.length:Int)),(76,vB x_)] [(0,eL x3.2),(20,E.cells [V.t T.nilS,V.t T.nilS]),(21,ar 76 1 2 aK x1.arrays),(22,E.tree l4 2 1 (List.map aD x1.parts) []),(23,E.cells [ms 21 1 2 aK x1.arrays,ms 22 1 2 aD x1.parts])] [0,20,21,22,23]) (fun j15 h=> ?_) (fun x17 h=> ?_)
      ·
       refine aR h (fun c7 h=> ?_) (fun c7 h=> ?_)
       ·exact rk hC (rF 10 c7) (fr 64 13) [(76,vB false)] [] [] (lE h)
       ·obtain⟨x16,hx16,h⟩:=bd h
        exact qw (xA hC [.foc 22 24 (0+Int.toNat (wr ((x1.parts.length:Int)-1))) 1 (aD x16),.shd 24] [] [] [(22,some (E.tree l4 2 1 (List.map aD x1.parts) [((0+Int.toNat (wr ((x1.parts.length:Int)-1))),1,ms 24 1 9 aG x16.body)])),(24,some (ar 86 1 9 aG x16.body))] [(24,true)] (a1 (tN aD hx16)) (by kernel_rfl)) (rk hC (rT 5 c7++[oQ (kS aD hx16),oT c7,oT c7,oX aD hx16,oT c7,oN aG x16.body,oT c7,oT c7]) (fr 64 13) [(76,vB (decide ((0:Int)<(x16.body.length:Int))))] [] [] ⟨decide ((0:Int)<(x16.body.length:Int)),h,((xA hC [.tre 24 l4 3,.unf 22 24 (aD x16) (List.map aD x1.parts)] [] [] [(24,none),(22,some (E.tree l4 2 1 (List.map aD x1.parts) []))] [] (a4 (Eq.refl (List.map aG x16.body).length) (Eq.refl l4) (tN aD hx16) (aEl aD hx16 rfl)) (by kernel_rfl)).trans (lS))⟩)
      ·refine aT h (fun c8 h=> ?_) (fun c8 h=> ?_)
       ·obtain⟨x18,hx18,h⟩:=bd h
        refine qw (xA hC [.foc 22 24 (0+Int.toNat (wr ((x1.parts.length:Int)-1))) 1 (aD x18),.shd 24] [] [] [(22,some (E.tree l4 2 1 (List.map aD x1.parts) [((0+Int.toNat (wr ((x1.parts.length:Int)-1))),1,ms 24 1 9 aG x18.body)])),(24,some (ar 86 1 9 aG x18.body))] [(24,true)] (a1 (tN aD hx18)) (by kernel_rfl)) ?_
        obtain⟨x19,hx19,x20,hx20,x21,hx21,h⟩:=kH h
        obtain⟨x22,hx22,x23,hx23,h⟩:=cT h
        refine dk hC bD [oQ (kS aD hx18),oX aD hx18,oQ (kS aD hx18),oX aD hx18,oQ (kS aG hx19),oX aG hx19,oC [0] [] (qO G hx20),oC [0] [] (qO G hx21),oC [0] [] (qO G hx22),oQ (kS aG hx19),oX aG hx19,.z (.rows (List.map aG x23)),oQ (str aG hx23)] (fr 77 23) [] [(0,sR x22.2),(24,some (ar 86 1 9 aG x23))] [(0,true),(0,true),(0,true)] ?_
        obtain⟨x24,hx24,h⟩:=bd h
        exact⟨(x22.2.b,x22.2.p,x1.arrays,x24),1,h,((xA hC [.tre 24 l4 3,.unf 22 24 (aD x18) (List.map aD x24),.lenc 23 1 (List.map aD x24).length] [] [] [(24,none),(22,some (E.tree l4 2 1 (List.map aD x24) [])),(23,sc [ms 21 1 2 aK x1.arrays,ms 22 1 2 aD x24])] [] (a5 (iH aG hx23) (Eq.refl l4) (tN aD hx18) (yR aD hx24 rfl) (iH aD hx24)) (by kernel_rfl)).trans ((lk hC [.shd 22] [] [] [(22,some (ar 60 1 2 aD x24))] []).trans (lS)))⟩
       ·exact qk ⟨(x3.2.b,x3.2.p,x1.arrays,x1.parts),1,h,((lk hC [.shd 22] [] [] [(22,some (ar 60 1 2 aD x1.parts))] []).trans (lS))⟩
     ·refine rq hC [] [100,101] [(100,vB (decide (x3.1=4)))] [] [] (aT h (fun c9 h=> ?_) (fun c9 h=> ?_))
      ·refine rq hC [] [102,103] [(103,vB (decide ((0:Int)<(x1.parts.length:Int))))] [] [] (aT h (fun c10 h=> ?_) (fun c10 h=> ?_))
       ·refine qw (lk hC [.shd 22] [] [] [(22,some (ar 60 1 2 aD x1.parts))] []) ?_
        obtain⟨x25,hx25,x26,hx26,h⟩:=cT h
        exact rk hC [oQ (kS aD hx25),oX aD hx25,.z (.rows (List.map aD x26)),.z (.lenc 23 1 (List.map aD x26).length),oQ (str aD hx26),oQ (iH aD hx26)] (fr 104 6) [] [(22,some (ar 60 1 2 aD x26)),(23,sc [ms 21 1 2 aK x1.arrays,ms 22 1 2 aD x26])] [] ⟨(x3.2.b,x3.2.p,x1.arrays,x26),1,h,lS⟩
       ·exact qk ⟨(x3.2.b,x3.2.p,x1.arrays,x1.parts),1,h,((lk hC [.shd 22] [] [] [(22,some (ar 60 1 2 aD x1.parts))] []).trans (lS))⟩
      ·exact qk ⟨(x3.2.b,x3.2.p,x1.arrays,x1.parts),1,h,((lk hC [.shd 22] [] [] [(22,some (ar 60 1 2 aD x1.parts))] []).trans (lS))⟩
 ·rintro⟨x27,x28,x29,x30⟩ g31 h
  subst hj2
  obtain rfl:=so h
  exact rq hC [.z (.at 2),.z (.fz 21 [] [23]),.z (.at 2),.z (.fz 22 [] [23])] [110] [] [(23,sc [vM aK x29,vM aD x30]),(21,none),(22,none),(20,sc [vM aK x29,vM aD x30])] [] (qr eW)
theorem uO{s}{c}{r}(h:rZ n s c=some r):VQ G 229 [] [vS s,vY c] (ms 0 1 1 rS r) [ar 9 1 1 rS r]:=by
 unfold rZ at h
 refine vq aN Tryz.func229 rfl fun w X β0 hC hg=> ?_
 refine rq hC [] [4] [] [] [] (rq hC [.z (.nat 20)] [5,8] [(5,ms 20 1 1 rS [])] [(20,some (ar 9 1 1 rS []))] [(20,true)] (rq hC [] [6] [(6,vI 0)] [] [] (qs (rq hC [] [7] [(7,vI 0)] [] [] ?_))))
 refine qb (bC (γ:=Nat) h (fun x_ g_=>aY [(0,vS s),(1,vY c),(5,ms 20 g_ 1 rS x_.1),(6,vI x_.2.1),(7,vI x_.2.2)] [(20,ar 9 g_ 1 rS x_.1)] [20]) 1 (lS) ?_)
 rintro again5 ⟨x1,x2,x3⟩ g4 h
 refine qs (rq hC [] (fr 9 4) [(12,vB (decide (x3≤(s.length:Int))))] [] [] (aT h (fun c1 h=> ?_) (fun c1 h=> ?_)))
 ·refine qk ?_
  obtain⟨j6,hj6,h⟩:=J7 h
  refine m5 (γ:=Nat) (j:=j6) (r:=r) (fun x_ g_=>aY [(0,vS s),(1,vY c),(5,ms 20 g_ 1 rS x_.1),(6,vI x_.2),(7,vI x3)] [(20,ar 9 g_ 1 rS x_.1)] [20]) ?_ ?_
  ·
   refine qb (vj h (fun x_=>aY [(0,vS s),(1,vY c),(5,ms 20 g4 1 rS x1),(6,vI x2),(7,vI x3),(25,vB x_)] [(20,ar 9 g4 1 rS x1)] [20]) (fun j7 h=> ?_) (fun x9 h=> ?_))
   ·
    refine aR h (fun c2 h=> ?_) (fun c2 h=> ?_)
    ·obtain⟨x8,hx8,h⟩:=bd h
     exact rk hC (rF 3 c2++[oY hx8]++rF 3 c2) (fr 15 11) [(25,vB (decide ((x8.toNat:Int)=(c.toNat:Int))))] [] [] (lE h)
    ·exact rk hC (rT 6 c2) (fr 15 11) [(25,vB true)] [] [] (lE h)
   ·refine aT h (fun c3 h=> ?_) (fun c3 h=> ?_)
    ·obtain⟨x10,hx10,x11,hx11,h⟩:=cT h
     exact rq hC [oS hx10,.z (.int 0),oA (aO rS hx11),oQ (bO (r:=rS) 1 (fun _=>rfl) x1),oQ (bO (r:=rS) 1 (fun _=>rfl) [x10])] [5,26,27,28,29,30,31,32] [(5,ms 20 (g4+1) 1 rS x11)] [(20,some (ar 9 (g4+1) 1 rS x11))] [] (rk hC [] [6,33,34] [(6,vI (wr (x3+1)))] [] [] ⟨(x11,wr (x3+1)),(g4+1),h,lS⟩)
    ·exact qk ⟨(x1,x2),g4,h,lS⟩
  ·rintro⟨x12,x13⟩ g14 h
   subst hj6
   exact rk hC [] [7,13,14] [(7,vI (wr (x3+1)))] [] [] ⟨(x12,x13,wr (x3+1)),g14,h,lS⟩
 ·obtain rfl:=so h
  exact cQ (rq hC [] [4,35] [(4,ms 20 g4 1 rS x1)] [] [] (qw (lk hC [.ren 4 20 0] [4] [(4,ms 0 1 1 rS x1)] [(0,some (ar 9 1 1 rS x1)),(20,none)] [(0,true)]) (qr eW)))
theorem aCb{s}{at_a1}{r}(h:A0 n s at_a1=some r):PQ G 336 [vS s,vI at_a1] (vI r):=by
 unfold A0 at h
 refine pq aN Tryz.func336 rfl fun w X hC=> ?_
 refine rq hC [] [4] [] [] [] (qs (vj h (fun x_=>aY [(0,vS s),(1,vI at_a1),(20,vB x_)] [] []) (fun j1 h=> ?_) (fun x3 h=> ?_)))
 ·
  refine aR h (fun c1 h=> ?_) (fun c1 h=> ?_)
  ·obtain⟨x2,hx2,h⟩:=bd h
   refine aR h (fun c2 h=> ?_) (fun c2 h=> ?_)
   ·exact rk hC (rF 3 c1++[oY hx2,oF c1,oF c1]++rF 3 c2++[oY hx2,oF c2,oF c2]) (fr 5 16) [(20,vB (decide ((108:Int)<(x2.toNat:Int))))] [] [] (lE h)
   ·exact rk hC (rF 3 c1++[oY hx2,oF c1,oF c1]++rT 5 c2) (fr 5 16) [(20,vB true)] [] [] (lE h)
  ·exact rk hC (rT 5 c1++sT 5) (fr 5 16) [(20,vB true)] [] [] (lE h)
 ·refine aT h (fun c3 h=> ?_) (fun c3 h=> ?_)
  ·obtain rfl:=so h
   exact rq hC [] [4] [(4,vI (-1))] [] [] (qr eR)
  ·refine qk ?_
   obtain⟨x4,hx4,h⟩:=bd h
   obtain rfl:=so h
   exact rq hC [oY hx4,.z (.int (x4.toNat:Int)),oQ (u8i x4)] [4,21,22,23,24,25] [(4,vI (wr ((x4.toNat:Int)-105)))] [] [] (qr eR)
theorem H9{s}{r}(h:vE n s=some r):PQ G 288 [vS s] (V.tup [vI r.1,vB r.2]):=by
 unfold vE at h
 refine pq aN Tryz.func288 rfl fun w X hC=> ?_
 refine rq hC [] [2,3] [] [] [] (vj h (fun x_=>aY [(0,vS s),(4,vB x_)] [] []) (fun j1 h=> ?_) (fun x3 h=> ?_))
 ·
  refine aR h (fun c1 h=> ?_) (fun c1 h=> ?_)
  ·exact rk hC (rF 4 c1) [4,7,8,9,10,11,12,13,14] [(4,vB false)] [] [] (lE h)
  ·obtain⟨x2,hx2,h⟩:=bd h
   exact rk hC [oT c1,oT c1,oY hx2,oT c1,oT c1] [4,7,8,9,10,11,12,13,14] [(4,vB (decide ((x2.toNat:Int)=45)))] [] [] (lE h)
 ·refine vj h (fun x_=>aY [(0,vS x_),(4,vB x3)] [] []) (fun j4 h=> ?_) (fun x6 h=> ?_)
  ·
   refine rq hC [] [15] [(15,vB x3)] [] [] (aT h (fun c2 h=> ?_) (fun c2 h=> ?_))
   ·obtain⟨x5,hx5,h⟩:=bd h
    exact rk hC [oS hx5] [0,16,17] [(0,vS x5)] [] [] (lE h)
   ·exact qk (lE h)
  ·refine qs (vj h (fun x_=>aY [(0,vS x6),(4,vB x3),(38,vB x_)] [] []) (fun j7 h=> ?_) (fun x9 h=> ?_))
   ·
    refine aR h (fun c3 h=> ?_) (fun c3 h=> ?_)
    ·refine aR h (fun c4 h=> ?_) (fun c4 h=> ?_)
     ·obtain⟨x8,hx8,h⟩:=bd h
      refine aR h (fun c5 h=> ?_) (fun c5 h=> ?_)
      ·exact rk hC (rF 4 c3++[oF c4,oF c4,oY hx8,oF c4,oF c4]++rF 5 c5++[oF c4,oF c5,oF c4]) (fr 18 21) [(38,vB false)] [] [] (lE h)
      ·refine aR h (fun c6 h=> ?_) (fun c6 h=> ?_)
       ·exact rk hC (rF 4 c3++[oF c4,oF c4,oY hx8,oF c4,oF c4]++rT 4 c5++[oF c6,oT c5,oF c6,oF c4,oT c5,oF c4]) (fr 18 21) [(38,vB x3)] [] [] (lE h)
       ·exact rk hC (rF 4 c3++[oF c4,oF c4,oY hx8,oF c4,oF c4]++rT 4 c5++[oT c6,oT c5,oT c6,oF c4,oT c5,oF c4]) (fr 18 21) [(38,vB true)] [] [] (lE h)
     ·exact rk hC (rF 4 c3++rT 6 c4) (fr 18 21) [(38,vB true)] [] [] (lE h)
    ·exact rk hC (rT 4 c3++sT 6) (fr 18 21) [(38,vB true)] [] [] (lE h)
   ·refine aT h (fun c7 h=> ?_) (fun c7 h=> ?_)
    ·obtain rfl:=so h
     exact rq hC [] [2,3] [(2,vI 0),(3,vB false)] [] [] (qr eR)
    ·refine qk (rq hC [] [5] [(5,vI 0)] [] [] (qs (rq hC [] [6] [(6,vI 0)] [] [] (qb (jA h (fun x_=>aY [(0,vS x6),(4,vB x3),(5,vI x_.1),(6,vI x_.2)] [] []) lS ?_)))))
     rintro again12 ⟨x10,x11⟩ h
     refine qs (rq hC [] (fr 39 4) [(42,vB (decide (x11<(x6.length:Int))))] [] [] (aT h (fun c8 h=> ?_) (fun c8 h=> ?_)))
     ·refine qk (qs (qb (qs (vj h (fun x_=>aY [(0,vS x6),(4,vB x3),(5,vI x10),(6,vI x11),(54,vB x_)] [] []) (fun j13 h=> ?_) (fun x15 h=> ?_)))))
      ·
       obtain⟨x14,hx14,h⟩:=bd h
       refine aR h (fun c9 h=> ?_) (fun c9 h=> ?_)
       ·exact rk hC ([oY hx14]++rF 3 c9++[oY hx14,oF c9,oF c9]) (fr 45 10) [(54,vB (decide ((57:Int)<(x14.toNat:Int))))] [] [] (lE h)
       ·exact rk hC ([oY hx14]++rT 5 c9) (fr 45 10) [(54,vB true)] [] [] (lE h)
      ·refine aT h (fun c10 h=> ?_) (fun c10 h=> ?_)
       ·obtain rfl:=so h
        exact rq hC [] [2,3] [(2,vI 0),(3,vB false)] [] [] (qr eR)
       ·refine qk ?_
        obtain⟨x16,hx16,h⟩:=bd h
        exact rk hC [oY hx16,.z (.int ((x16-(48:UInt8)).toNat:Int)),oQ (cvu (aHA x16 (48:UInt8)))] [5,55,56,57,58,59,60,61,62] [(5,vI (wr ((wr (x10*10))+((x16-(48:UInt8)).toNat:Int))))] [] [] (rk hC [] [6,43,44] [(6,vI (wr (x11+1)))] [] [] (lE h))
     ·refine cQ (vj h (fun x_=>aY [(5,vI x_)] [] []) (fun j17 h=> ?_) (fun x18 h=> ?_))
      ·
       refine rq hC [] [63] [(63,vB x3)] [] [] (aT h (fun c11 h=> ?_) (fun c11 h=> ?_))
       ·exact rk hC [] [5,64,65] [(5,vI (wr (0-x10)))] [] [] (lE h)
       ·exact qk (lE h)
      ·obtain rfl:=so h
       exact rq hC [] [2,3,66] [(2,vI x18),(3,vB true)] [] [] (qr eR)
theorem wA{s}{at_a1}{r}(h:pS n s at_a1=some r):PQ G 317 [vS s,vI at_a1] (V.tup [vI r.1,vI r.2]):=by
 unfold pS at h
 refine pq aN Tryz.func317 rfl fun w X hC=> ?_
 refine rq hC [] [4,5] [] [] [] (rq hC [] [6,9] [(6,vI at_a1)] [] [] (qs (qb (jA h (fun x_=>aY [(0,vS s),(1,vI at_a1),(6,vI x_)] [] []) lS ?_))))
 rintro again2 x1 h
 refine qs (vj h (fun x_=>aY [(0,vS s),(1,vI at_a1),(6,vI x1),(31,vB x_)] [] []) (fun j3 h=> ?_) (fun x5 h=> ?_))
 ·
  refine aR h (fun c1 h=> ?_) (fun c1 h=> ?_)
  ·exact rk hC (rF 5 c1++sF 10) (fr 10 22) [(31,vB false)] [] [] (lE h)
  ·refine aR h (fun c2 h=> ?_) (fun c2 h=> ?_)
   ·exact rk hC (rT 5 c1++rF 5 c2++sF 5) (fr 10 22) [(31,vB false)] [] [] (lE h)
   ·obtain⟨x4,hx4,h⟩:=bd h
    refine aR h (fun c3 h=> ?_) (fun c3 h=> ?_)
    ·exact rk hC (rT 5 c1++rT 3 c2++[oY hx4,oT c2,oT c2]++rF 5 c3) (fr 10 22) [(31,vB false)] [] [] (lE h)
    ·exact rk hC (rT 5 c1++rT 3 c2++[oY hx4,oT c2,oT c2]++rT 3 c3++[oY hx4,oT c3,oT c3]) (fr 10 22) [(31,vB (decide ((x4.toNat:Int)≤57)))] [] [] (lE h)
 ·refine aT h (fun c4 h=> ?_) (fun c4 h=> ?_)
  ·exact qk (qb (rk hC [] [6,32,33] [(6,vI (wr (x1+1)))] [] [] (lE h)))
  ·refine cQ ?_
   obtain⟨x6,hx6,x7,hx7,h⟩:=cT h
   refine rq hC [oS hx6,oV (H9 G hx7)] [7,8,34,35,36,37,38,39,40,41] [(7,vI x7.1),(8,vB x7.2)] [] [] (qs (rq hC [] [42,43] [(43,vB (!x7.2))] [] [] (aT h (fun c5 h=> ?_) (fun c5 h=> ?_))))
   ·obtain rfl:=so h
    exact rq hC [] [4,5,44] [(4,vI 1),(5,vI at_a1)] [] [] (qr eR)
   ·obtain rfl:=so h
    exact qk (rq hC [] [4,5,45,46] [(4,vI x7.1),(5,vI x1)] [] [] (qr eR))
theorem aAC{a}{s}{at_a2}{r}(h:wW n a s at_a2=some r):PQ G 331 [V.agg (aJ a),vS s,vI at_a2] (V.tup [V.agg (aJ r.1),vI r.2]):=by
 unfold wW at h
 refine pq aN Tryz.func331 rfl fun w X hC=> ?_
 refine rq hC [.z (.b (true)),.z (.nat 20)] [3,6,7] [(3,V.tp (aQ a)),(6,V.ref 20 0)] [(20,sc [V.t T.nilS,vI 0])] [(20,true)] (rq hC [] [8] [(8,vI 1)] [] [] (vj h (fun x_=>aY [(1,vS s),(2,vI at_a2),(3,V.tp (aQ a)),(6,V.ref 20 0),(8,vI x_)] [(20,E.cells [V.t T.nilS,vI 0])] [20]) (fun j1 h=> ?_) (fun x3 h=> ?_)))
 ·
  obtain⟨x2,hx2,h⟩:=bd h
  refine rq hC [oY hx2] (fr 14 4) [(17,vB (decide ((x2.toNat:Int)=45)))] [] [] (aT h (fun c1 h=> ?_) (fun c1 h=> ?_))
  ·exact rk hC [] [8] [(8,vI (-1))] [] [] (lE h)
  ·exact qk (lE h)
 ·refine vj h (fun x_=>aY [(1,vS s),(2,vI x_),(3,V.tp (aQ a)),(6,V.ref 20 0),(8,vI x3)] [(20,E.cells [V.t T.nilS,vI 0])] [20]) (fun j4 h=> ?_) (fun x8 h=> ?_)
  ·
   refine vj h (fun x_=>aY [(1,vS s),(2,vI at_a2),(3,V.tp (aQ a)),(6,V.ref 20 0),(8,vI x3),(27,vB x_)] [(20,E.cells [V.t T.nilS,vI 0])] [20]) (fun j5 h=> ?_) (fun x7 h=> ?_)
   ·
    obtain⟨x6,hx6,h⟩:=bd h
    refine aR h (fun c2 h=> ?_) (fun c2 h=> ?_)
    ·exact rk hC ([oY hx6]++rF 3 c2++[oY hx6,oF c2,oF c2]) (fr 18 10) [(27,vB (decide ((x6.toNat:Int)=43)))] [] [] (lE h)
    ·exact rk hC ([oY hx6]++rT 5 c2) (fr 18 10) [(27,vB true)] [] [] (lE h)
   ·refine aT h (fun c3 h=> ?_) (fun c3 h=> ?_)
    ·exact rk hC [] [2,28,29] [(2,vI (wr (at_a2+1)))] [] [] (lE h)
    ·exact qk (lE h)
  ·obtain⟨x9,hx9,h⟩:=bd h
   refine rq hC [oV (wA G hx9)] [9,10,30,31,32,33,34,35] [(9,vI x9.1),(10,vI x9.2)] [] [] (rq hC [] [11,36] [(11,vI x9.2)] [] [] (vj h (fun x_=>aY [(1,vS s),(2,vI x8),(3,V.tp (aQ a)),(6,V.ref 20 0),(8,vI x3),(9,vI x9.1),(10,vI x9.2),(11,vI x_)] [(20,E.cells [V.t T.nilS,vI 0])] [20]) (fun j10 h=> ?_) (fun x14 h=> ?_)))
   ·
    refine vj h (fun x_=>aY [(1,vS s),(2,vI x8),(3,V.tp (aQ a)),(6,V.ref 20 0),(8,vI x3),(9,vI x9.1),(10,vI x9.2),(11,vI x9.2),(51,vB x_)] [(20,E.cells [V.t T.nilS,vI 0])] [20]) (fun j11 h=> ?_) (fun x13 h=> ?_)
    ·
     refine aR h (fun c4 h=> ?_) (fun c4 h=> ?_)
     ·exact rk hC (rF 5 c4++sF 5) (fr 37 15) [(51,vB false)] [] [] (lE h)
     ·refine aR h (fun c5 h=> ?_) (fun c5 h=> ?_)
      ·exact rk hC (rT 5 c4++rF 5 c5) (fr 37 15) [(51,vB false)] [] [] (lE h)
      ·obtain⟨x12,hx12,h⟩:=bd h
       exact rk hC (rT 5 c4++rT 3 c5++[oY hx12,oT c5,oT c5]) (fr 37 15) [(51,vB (decide ((x12.toNat:Int)=42)))] [] [] (lE h)
    ·refine aT h (fun c6 h=> ?_) (fun c6 h=> ?_)
     ·exact rk hC [] [11,52,53] [(11,vI (wr (x9.2+1)))] [] [] (lE h)
     ·exact qk (lE h)
   ·obtain⟨x15,hx15,h⟩:=bd h
    refine rq hC [oV (aCb G hx15)] [12,54,55,56] [(12,vI x15)] [] [] (qs ?_)
    obtain⟨x16,hx16,h⟩:=bd h
    refine dk hC bD [.z (.nat 21),oA (aO rI hx16),.z (.nat 22),oQ (bO (r:=rI) 1 (fun _=>rfl) []),oQ (bO (r:=rI) 1 (fun _=>rfl) a.coefs)] [13,57,58,59,60,61,62,63] [(13,V.ref 22 0)] [(21,some (ar 3 2 1 rI x16)),(22,sc [ms 21 2 1 rI x16,vI a.const])] [(21,true),(22,true)] (qs (vj h (fun x_=>aY [(2,vI x8),(3,V.tp (aQ a)),(6,V.ref 20 0),(8,vI x3),(9,vI x9.1),(10,vI x9.2),(11,vI x14),(12,vI x15),(13,V.ref 22 0),(75,vB x_)] [(20,E.cells [V.t T.nilS,vI 0]),(21,ar 3 2 1 rI x16),(22,E.cells [ms 21 2 1 rI x16,vI a.const])] [20,21,22]) (fun j17 h=> ?_) (fun x18 h=> ?_)))
    ·
     refine aR h (fun c7 h=> ?_) (fun c7 h=> ?_)
     ·exact rk hC (rF 6 c7) (fr 64 12) [(75,vB false)] [] [] (lE h)
     ·refine aR h (fun c8 h=> ?_) (fun c8 h=> ?_)
      ·exact rk hC (rT 4 c7++rF 3 c8++[oT c7,oF c8,oT c7]) (fr 64 12) [(75,vB (decide (x9.2=x8)))] [] [] (lE h)
      ·exact rk hC (rT 4 c7++rT 3 c8++[oT c7,oT c8,oT c7]) (fr 64 12) [(75,vB true)] [] [] (lE h)
    ·refine aT h (fun c9 h=> ?_) (fun c9 h=> ?_)
     ·refine qs ?_
      obtain⟨x19,hx19,x20,hx20,h⟩:=cT h
      obtain rfl:=so h
      exact dk hC bD [oQ (kS rI hx19),oX rI hx19,oQ (kS rI hx19),oX rI hx19,.z (.rows (List.map rI x20)),oQ (str rI hx20)] (fr 76 13) [] [(21,some (ar 3 2 1 rI x20))] [] (qw (xA hC [.lenc 22 0 (List.map rI x20).length] [] [] [(22,sc [ms 21 2 1 rI x20,vI a.const])] [] (a1 (iH rI hx20)) (by kernel_rfl)) (rq hC [.z (.at 5),.z (.fz 21 [] [22])] [7,89,90,91] [(7,vI (wr (x14+1)))] [(22,sc [vM rI x20,vI a.const]),(21,none),(20,sc [vM rI x20,vI a.const])] [] (qr eR)))
     ·refine qk (qs (rq hC [] [92,93,94] [(94,vB (decide (x9.2=x8)))] [] [] (aT h (fun c10 h=> ?_) (fun c10 h=> ?_))))
      ·obtain rfl:=so h
       exact rq hC [] [7,95] [(7,vI (-1))] [(20,some (E.cells (aJ a)))] [] (qr eR)
      ·obtain rfl:=so h
       exact qk (rq hC [] (fr 96 7) [] [(22,sc [ms 21 2 1 rI x16,vI (wr (a.const+(wr (x3*x9.1))))])] [] (rq hC [.z (.at 4),.z (.fz 21 [] [22])] [7,103,104] [(7,vI x9.2)] [(22,sc [vM rI x16,vI (wr (a.const+(wr (x3*x9.1))))]),(21,none),(20,sc [vM rI x16,vI (wr (a.const+(wr (x3*x9.1))))])] [] (qr eR)))
theorem qR(G:GS): ∀(n:Nat) (n_a0:Int) {r:(List UInt8)} (h:s_l16Dec n n_a0=some r),PQ G 266 [vI n_a0] (vS r):=by
 intro n
 induction n with
 |zero=>intro n_a0 r h;rw [s_l16Dec.eq_def] at h;cases h
 |succ n ih=>
  intro n_a0 r h
  rw [s_l16Dec.eq_def] at h;dsimp only at h
  refine pq aN Tryz.func266 rfl fun w X hC=> ?_
  refine rq hC [] [2] [] [] [] (qs (rq hC [] [4,5] [(5,vB (decide (n_a0<(-9223372036854775807))))] [] [] (aT h (fun c1 h=> ?_) (fun c1 h=> ?_))))
  ·obtain rfl:=so h
   exact rq hC [] [2] [(2,vS [45,57,50,50,51,51,55,50,48,51,54,56,53,52,55,55,53,56,48,56])] [] [] (qr eR)
  ·refine qk (qs (rq hC [] [6,7] [(7,vB (decide (n_a0<0)))] [] [] (aT h (fun c2 h=> ?_) (fun c2 h=> ?_))))
   ·obtain⟨x1,hx1,x2,hx2,h⟩:=cT h
    obtain rfl:=so h
    exact rq hC [oV (ih (wr (0-n_a0)) hx1),oS hx2] [2,8,9,10,11] [(2,vS x2)] [] [] (qr eR)
   ·refine qk (rq hC [] [3] [(3,vS [])] [] [] (qs (qb (jA h (fun x_=>aY [(0,vI x_.1),(3,vS x_.2)] [] []) lS ?_))))
    rintro again5 ⟨x3,x4⟩ h
    refine qs (rq hC [] [12,13] [(13,vB (decide ((9:Int)<x3)))] [] [] (aT h (fun c3 h=> ?_) (fun c3 h=> ?_)))
    ·refine qk (qb ?_)
     obtain⟨x6,hx6,h⟩:=bd h
     exact rq hC [.z (.y (UInt8.ofInt (wr (48+(Int.tmod x3 10))))),.z (.int 0),.z (.str [UInt8.ofInt (wr (48+(Int.tmod x3 10)))]),oQ (show(10:Int)≠0 by decide),oQ (Eq.refl (UInt8.ofInt (wr (48+(Int.tmod x3 10))))),oQ (Eq.refl (List.map kG [UInt8.ofInt (wr (48+(Int.tmod x3 10)))])),oS hx6] [3,14,15,16,17,18,19,20,21] [(3,vS x6)] [] [] (rk hC [oQ (show(10:Int)≠0 by decide)] [0,22,23] [(0,vI (wr (Int.tdiv x3 10)))] [] [] (lE h))
    ·refine cQ ?_
     obtain⟨x7,hx7,h⟩:=bd h
     obtain rfl:=so h
     exact rq hC [.z (.y (UInt8.ofInt (wr (48+x3)))),.z (.int 0),.z (.str [UInt8.ofInt (wr (48+x3))]),oQ (Eq.refl (UInt8.ofInt (wr (48+x3)))),oQ (Eq.refl (List.map kG [UInt8.ofInt (wr (48+x3))])),oS hx7] [2,24,25,26,27,28,29,30] [(2,vS x7)] [] [] (qr eR)
theorem H4{n_a0}{name}{r}(h:vD n n_a0 name=some r):PQ G 318 [vI n_a0,vS name] (vS r):=by
 unfold vD at h
 refine pq aN Tryz.func318 rfl fun w X hC=> ?_
 refine rq hC [] [4] [] [] [] (rq hC [] [5] [(5,vS [43])] [] [] (vj h (fun x_=>aY [(0,vI x_.1),(1,vS name),(5,vS x_.2)] [] []) (fun j1 h=> ?_) ?_))
 ·
  refine rq hC [] [6,7] [(7,vB (decide (n_a0<0)))] [] [] (aT h (fun c1 h=> ?_) (fun c1 h=> ?_))
  ·exact rq hC [] [5] [(5,vS [45])] [] [] (rk hC [] [0,8,9] [(0,vI (wr (0-n_a0)))] [] [] (lE h))
  ·exact qk (lE h)
 ·rintro⟨x2,x3⟩ h
  refine qs (rq hC [] [10,11] [(11,vB (decide (name=[])))] [] [] (aT h (fun c2 h=> ?_) (fun c2 h=> ?_)))
  ·obtain⟨x4,hx4,x5,hx5,h⟩:=cT h
   obtain rfl:=so h
   exact rq hC [oV (qR G n x2 hx4),oS hx5] [4,12,13,14,15] [(4,vS x5)] [] [] (qr eR)
  ·refine qk (qs (rq hC [] [16,17] [(17,vB (decide (x2=1)))] [] [] (aT h (fun c3 h=> ?_) (fun c3 h=> ?_))))
   ·obtain⟨x6,hx6,h⟩:=bd h
    obtain rfl:=so h
    exact rq hC [oS hx6] [4,18,19,20] [(4,vS x6)] [] [] (qr eR)
   ·refine qk ?_
    obtain⟨x7,hx7,x8,hx8,x9,hx9,h⟩:=kH h
    obtain⟨x10,hx10,h⟩:=bd h
    obtain rfl:=so h
    exact rq hC [oV (qR G n x2 hx7),oS hx8,oS hx9,oS hx10] [4,21,22,23,24,25,26,27] [(4,vS x10)] [] [] (qr eR)
theorem uJ{a}{r}(h:rX n a=some r):PQ G 294 [V.agg (aJ a)] (vS r):=by
 unfold rX at h
 refine pq aN Tryz.func294 rfl fun w X hC=> ?_
 refine rq hC [.z (.b (true))] [1,2] [(1,V.tp (aQ a))] [] [] (rq hC [] [3] [(3,vS [])] [] [] (qs (rq hC [] [4] [(4,vI 0)] [] [] (qb (jA h (fun x_=>aY [(1,V.tp (aQ a)),(3,vS x_.1),(4,vI x_.2)] [] []) lS ?_)))))
 rintro again3 ⟨x1,x2⟩ h
 refine qs (rq hC [oN rI a.coefs] (fr 5 5) [(9,vB (decide (x2<(a.coefs.length:Int))))] [] [] (aT h (fun c1 h=> ?_) (fun c1 h=> ?_)))
 ·refine qk (vj h (fun x_=>aY [(1,V.tp (aQ a)),(3,vS x_),(4,vI x2)] [] []) (fun j4 h=> ?_) (fun x9 h=> ?_))
  ·
   refine qb ?_
   obtain⟨x5,hx5,h⟩:=bd h
   refine rq hC [oR rI hx5] (fr 12 6) [(17,vB (!decide (x5=0)))] [] [] (aT h (fun c2 h=> ?_) (fun c2 h=> ?_))
   ·obtain⟨x6,hx6,x7,hx7,x8,hx8,h⟩:=kH h
    exact dk hC bD [oR rI hx5,oS hx6,oV (H4 G hx7),oS hx8] [3,18,19,20,21,22,23,24,25,26,27,28,29] [(3,vS x8)] [] [] (lE h)
   ·exact qk (lE h)
  ·exact rk hC [] [4,10,11] [(4,vI (wr (x2+1)))] [] [] (lE h)
 ·refine cQ (vj h (fun x_=>aY [(3,vS x_)] [] []) (fun j10 h=> ?_) (fun x13 h=> ?_))
  ·
   refine rq hC [] [30,31,32] [(32,vB (!decide (a.const=0)))] [] [] (aT h (fun c3 h=> ?_) (fun c3 h=> ?_))
   ·obtain⟨x11,hx11,x12,hx12,h⟩:=cT h
    exact rk hC [oV (H4 G hx11),oS hx12] [3,33,34,35,36,37] [(3,vS x12)] [] [] (lE h)
   ·exact qk (lE h)
  ·refine qs (rq hC [] [38,39] [(39,vB (decide (x13=[])))] [] [] (aT h (fun c4 h=> ?_) (fun c4 h=> ?_)))
   ·obtain rfl:=so h
    exact rq hC [] [2] [(2,vS [48])] [] [] (qr eR)
   ·refine qk (qs ?_)
    obtain⟨x14,hx14,h⟩:=bd h
    refine rq hC [oS hx14] [40,41,42] [(42,vB (decide (x14=[43])))] [] [] (aT h (fun c5 h=> ?_) (fun c5 h=> ?_))
    ·obtain⟨x15,hx15,h⟩:=bd h
     obtain rfl:=so h
     exact rq hC [oS hx15] [2,43,44] [(2,vS x15)] [] [] (qr eR)
    ·obtain rfl:=so h
     exact qk (rq hC [] [2,45] [(2,vS x13)] [] [] (qr eR))
theorem xP{a}{r}(h:nG n a=some r):PQ G 332 [V.agg (aJ a)] (vS r):=by
 unfold nG at h
 refine pq aN Tryz.func332 rfl fun w X hC=> ?_
 refine rq hC [.z (.b (true))] [1,2] [(1,V.tp (aQ a))] [] [] (qs ?_)
 obtain⟨x1,hx1,h⟩:=bd h
 refine rq hC [oV (dM G hx1)] [3,4,5] [(5,vB (!x1))] [] [] (aT h (fun c1 h=> ?_) (fun c1 h=> ?_))
 ·obtain rfl:=so h
  exact rq hC [] [2] [(2,vS [])] [] [] (qr eR)
 ·refine qk ?_
  obtain⟨x2,hx2,h⟩:=bd h
  obtain rfl:=so h
  exact rq hC [oV (uJ G hx2)] [2,6,7] [(2,vS x2)] [] [] (qr eR)
theorem qY{text}{r}(h:lH n text=some r):PQ G 314 [vS text] (V.tup [V.agg (aJ r.1),vB r.2]):=by
 unfold lH at h
 refine pq aN Tryz.func314 rfl fun w X hC=> ?_
 refine rq hC [.z (.nat 20)] [2,3] [(2,V.ref 20 0)] [(20,sc [V.t T.nilS,vI 0])] [(20,true)] ?_
 obtain⟨x1,hx1,h⟩:=bd h
 refine rq hC [oC [] [21] (lC G n hx1),.z (.nat 22)] [4,6] [(4,V.ref 22 0)] [(21,some (ar 3 1 1 rI x1.coefs)),(22,sc [ms 21 1 1 rI x1.coefs,vI x1.const])] [(21,true),(22,true)] (qs (rq hC [] [7,8,9] [(9,vB (decide ((40:Int)<(text.length:Int))))] [] [] (aT h (fun c1 h=> ?_) (fun c1 h=> ?_))))
 ·obtain rfl:=so h
  exact rq hC [] [3,10] [(3,vB false)] [(20,sc [V.t T.nilS,vI 0])] [] (qr eR)
 ·refine qk (rq hC [] [5] [(5,vI 0)] [] [] (qs (qb (qw (lk hC [.fz 21 [] [22]] [] [] [(22,some (E.cells (aJ x1))),(21,none)] []) (jA h (fun x_=>aY [(0,vS text),(2,V.ref 20 0),(4,V.ref 22 0),(5,vI x_.2.2)] [(20,E.cells [V.t T.nilS,vI 0]),(22,E.cells [vM rI x_.1,vI x_.2.1])] [20,21,22]) lS ?_)))))
  rintro again5 ⟨x2,x3,x4⟩ h
  refine qs (vj h (fun x_=>aY [(0,vS text),(2,V.ref 20 0),(4,V.ref 22 0),(5,vI x4),(18,vB x_)] [(20,E.cells [V.t T.nilS,vI 0]),(22,E.cells [vM rI x2,vI x3])] [20,21,22]) (fun j6 h=> ?_) (fun x7 h=> ?_))
  ·
   refine aR h (fun c2 h=> ?_) (fun c2 h=> ?_)
   ·exact rk hC (rF 5 c2) (fr 11 8) [(18,vB false)] [] [] (lE h)
   ·exact rk hC (rT 5 c2) (fr 11 8) [(18,vB (decide (x4<(text.length:Int))))] [] [] (lE h)
  ·refine aT h (fun c3 h=> ?_) (fun c3 h=> ?_)
   ·refine qk (qb ?_)
    obtain⟨x8,hx8,h⟩:=bd h
    exact rk hC [oV (aAC G hx8)] [5,19,20,21,22,23,24,25] [(5,vI x8.2)] [(22,some (E.cells (aJ x8.1)))] [] (lE h)
   ·refine cQ (qs ?_)
    obtain⟨x9,hx9,h⟩:=bd h
    refine rq hC [oV (xP G hx9)] (fr 26 4) [(29,vB (!decide (x9=text)))] [] [] (aT h (fun c4 h=> ?_) (fun c4 h=> ?_))
    ·obtain rfl:=so h
     exact rq hC [] [3,30] [(3,vB false)] [(20,sc [V.t T.nilS,vI 0])] [] (qr eR)
    ·obtain rfl:=so h
     exact qk (rq hC [] [3,31] [(3,vB true)] [(20,sc [vM rI x2,vI x3])] [] (qr eR))
theorem l8{text}{r}(h:iJ n text=some r):VQ G 289 [] [vS text] (ms 0 1 2 aA r) [ar 63 1 2 aA r]:=by
 unfold iJ at h
 refine vq aN Tryz.func289 rfl fun w X β0 hC hg=> ?_
 refine rq hC [] [2] [] [] [] (rq hC [.z (.nat 20)] [3,8] [(3,ms 20 1 2 aA [])] [(20,some (ar 63 1 2 aA []))] [(20,true)] ?_)
 obtain⟨x1,hx1,h⟩:=bd h
 refine rq hC [oC [] [21] (uO G hx1)] [4,9,10] [(4,ms 21 1 1 rS x1)] [(21,some (ar 9 1 1 rS x1))] [(21,true)] (qs (rq hC [] [5] [(5,vI 0)] [] [] (qb (bC (γ:=Nat) h (fun x_ g_=>aY [(3,ms 20 g_ 2 aA x_.1),(4,ms 21 1 1 rS x1),(5,vI x_.2)] [(20,ar 63 g_ 2 aA x_.1),(21,ar 9 1 1 rS x1)] [20,21]) 1 (lS) ?_))))
 rintro again5 ⟨x2,x3⟩ g4 h
 refine qs (vj h (fun x_=>aY [(3,ms 20 g4 2 aA x2),(4,ms 21 1 1 rS x1),(5,vI x3),(18,vB x_)] [(20,ar 63 g4 2 aA x2),(21,ar 9 1 1 rS x1)] [20,21]) (fun j6 h=> ?_) (fun x7 h=> ?_))
 ·
  refine aR h (fun c1 h=> ?_) (fun c1 h=> ?_)
  ·exact rk hC ([oN rS x1]++rF 3 c1) (fr 11 8) [(18,vB false)] [] [] (lE h)
  ·exact rk hC ([oN rS x1]++rT 3 c1) (fr 11 8) [(18,vB (decide (x3≤2)))] [] [] (lE h)
 ·refine aT h (fun c2 h=> ?_) (fun c2 h=> ?_)
  ·refine qk (qs (qb ?_))
   obtain⟨x8,hx8,x9,hx9,h⟩:=cT h
   refine rq hC [oQ (kS rS hx8),oX rS hx8,oV (qY G hx9),.z (.nat 22)] [6,7,21,22,23,24,25,26,27,28] [(6,V.ref 22 0)] [(22,some (E.cells (aJ x9.1)))] [(22,true)] ?_
   obtain⟨x10,hx10,h⟩:=bd h
   exact rk hC [.z (.int 0),oA (aO aA hx10),oQ (bO (r:=aA) 2 aS x2),oQ (bO (r:=aA) 2 aS [x9.1])] [3,29,30,31,32] [(3,ms 20 (g4+1) 2 aA x10)] [(20,some (ar 63 (g4+1) 2 aA x10))] [] (rk hC [] [5,19,20] [(5,vI (wr (x3+1)))] [] [] ⟨(x10,wr (x3+1)),(g4+1),h,lS⟩)
  ·obtain rfl:=so h
   exact cQ (rq hC [] [2,33] [(2,ms 20 g4 2 aA x2)] [] [] (qw (lk hC [.ren 2 20 0] [2] [(2,ms 0 1 2 aA x2)] [(0,some (ar 63 1 2 aA x2)),(20,none)] [(0,true)]) (qr eW)))
theorem wB{s}{r}(h:pT n s=some r):VQ G 262 [] [vS s] (ms 0 1 1 rS r) [ar 9 1 1 rS r]:=by
 unfold pT at h
 refine vq aN Tryz.func262 rfl fun w X β0 hC hg=> ?_
 refine rq hC [] [2] [] [] [] ?_
 obtain⟨x1,hx1,h⟩:=bd h
 refine rq hC [oC [] [20] (uO G hx1)] [3,6,7] [(3,ms 20 1 1 rS x1)] [(20,some (ar 9 1 1 rS x1))] [(20,true)] (rq hC [.z (.nat 21)] [4,8] [(4,ms 21 1 1 rS [])] [(21,some (ar 9 1 1 rS []))] [(21,true)] (qs (rq hC [] [5] [(5,vI 0)] [] [] (qb (bC (γ:=Nat) h (fun x_ g_=>aY [(3,ms 20 1 1 rS x1),(4,ms 21 g_ 1 rS x_.1),(5,vI x_.2)] [(20,ar 9 1 1 rS x1),(21,ar 9 g_ 1 rS x_.1)] [20,21]) 1 (lS) ?_)))))
 rintro again5 ⟨x2,x3⟩ g4 h
 refine qs (rq hC [oN rS x1] (fr 9 4) [(12,vB (decide (x3<(x1.length:Int))))] [] [] (aT h (fun c1 h=> ?_) (fun c1 h=> ?_)))
 ·refine qk ?_
  obtain⟨j6,hj6,h⟩:=J7 h
  refine m5 (γ:=Nat) (j:=j6) (r:=r) (fun x_ g_=>aY [(3,ms 20 1 1 rS x1),(4,ms 21 g_ 1 rS x_),(5,vI x3)] [(20,ar 9 1 1 rS x1),(21,ar 9 g_ 1 rS x_)] [20,21]) ?_ ?_
  ·
   refine qb ?_
   obtain⟨x7,hx7,h⟩:=bd h
   refine rq hC [oQ (kS rS hx7),oX rS hx7] (fr 15 5) [(19,vB (!decide (x7=[])))] [] [] (aT h (fun c2 h=> ?_) (fun c2 h=> ?_))
   ·obtain⟨x8,hx8,h⟩:=bd h
    exact rk hC [oQ (kS rS hx7),oX rS hx7,.z (.int 0),oA (aO rS hx8),oQ (bO (r:=rS) 1 (fun _=>rfl) x2),oQ (bO (r:=rS) 1 (fun _=>rfl) [x7])] [4,20,21,22,23,24,25,26] [(4,ms 21 (g4+1) 1 rS x8)] [(21,some (ar 9 (g4+1) 1 rS x8))] [] ⟨x8,(g4+1),h,lS⟩
   ·exact qk ⟨x2,g4,h,lS⟩
  ·rintro x9 g10 h
   subst hj6
   exact rk hC [] [5,13,14] [(5,vI (wr (x3+1)))] [] [] ⟨(x9,wr (x3+1)),g10,h,lS⟩
 ·obtain rfl:=so h
  exact cQ (rq hC [] [2,27] [(2,ms 21 g4 1 rS x2)] [] [] (qw (lk hC [.ren 2 21 0] [2] [(2,ms 0 1 1 rS x2)] [(0,some (ar 9 1 1 rS x2)),(21,none)] [(0,true)]) (qr eW)))
theorem aCa{line}{r}(h:z8 n line=some r):PQ G 264 [vS line] (V.agg (jI r)):=by
 unfold z8 at h
 refine pq aN Tryz.func264 rfl fun w X hC=> ?_
 refine rq hC [.z (.nat 20)] [2] [(2,V.ref 20 0)] [(20,sc [V.t T.nilS,V.t T.nilS])] [(20,true)] ?_
 obtain⟨x1,hx1,h⟩:=bd h
 refine rq hC [oC [] [21] (wB G hx1)] [3,4,5] [(3,ms 21 1 1 rS x1)] [(21,some (ar 9 1 1 rS x1))] [(21,true)] (qs (rq hC [oN rS x1] [6,7,8] [(8,vB (!decide ((x1.length:Int)=3)))] [] [] (aT h (fun c1 h=> ?_) (fun c1 h=> ?_))))
 ·obtain rfl:=so h
  exact rq hC [] [9] [] [(20,sc [V.t T.nilS,V.t T.nilS])] [] (qr eR)
 ·refine qk (qs ?_)
  obtain⟨x2,hx2,x3,hx3,x4,hx4,h⟩:=kH h
  obtain⟨x5,hx5,h⟩:=bd h
  obtain rfl:=so h
  exact dk hC bD [oQ (kS rS hx2),oX rS hx2,oC [] [22] (l8 G hx3),oQ (kS rS hx4),oX rS hx4,oC [] [23] (l8 G hx5)] (fr 10 9) [] [(22,some (ar 63 1 2 aA x3)),(23,some (ar 63 1 2 aA x5)),(20,sc [ms 22 1 2 aA x3,ms 23 1 2 aA x5])] [(22,true),(23,true)] (qw (lk hC [.fz 22 [] [20]] [] [] [(20,sc [vM aA x3,ms 23 1 2 aA x5]),(22,none)] []) (qw (lk hC [.fz 23 [] [20]] [] [] [(20,sc [vM aA x3,vM aA x5]),(23,none)] []) (qr eR)))
theorem yJ{s}{at_a1}{end_a2}{r}(h:s4 n s at_a1 end_a2=some r):PQ G 315 [vS s,vI at_a1,vY end_a2] (vI r):=by
 unfold s4 at h
 refine pq aN Tryz.func315 rfl fun w X hC=> ?_
 refine rq hC [] [6] [] [] [] (qs (rq hC [] [7,8] [(7,vI at_a1)] [] [] (qb (jA h (fun x_=>aY [(0,vS s),(2,vY end_a2),(7,vI x_)] [] []) lS ?_))))
 rintro again2 x1 h
 refine qs (rq hC [] (fr 9 4) [(12,vB (decide (x1<(s.length:Int))))] [] [] (aT h (fun c1 h=> ?_) (fun c1 h=> ?_)))
 ·refine qk (qs (qb ?_))
  obtain⟨x3,hx3,h⟩:=bd h
  refine rq hC [oY hx3] (fr 15 5) [(19,vB (decide ((x3.toNat:Int)=(end_a2.toNat:Int))))] [] [] (aT h (fun c2 h=> ?_) (fun c2 h=> ?_))
  ·obtain rfl:=so h
   exact rq hC [] [6,20] [(6,vI x1)] [] [] (qr eR)
  ·exact qk (rk hC [] [7,13,14] [(7,vI (wr (x1+1)))] [] [] (lE h))
 ·obtain rfl:=so h
  exact cQ (rq hC [] [6] [(6,vI (-1))] [] [] (qr eR))
theorem oB{s}{at_a1}{r}(h:iR n s at_a1=some r):PQ G 290 [vS s,vI at_a1] (V.tup [V.agg (b8 r.1),vI r.2]):=by
 unfold iR at h
 refine pq aN Tryz.func290 rfl fun w X hC=> ?_
 refine rq hC [.z (.nat 20)] [4,5] [(4,V.ref 20 0)] [(20,sc [vS [],V.t T.nilS])] [(20,true)] ?_
 obtain⟨x1,hx1,h⟩:=bd h
 refine rq hC [oV (yJ G hx1)] (fr 6 4) [(6,vI x1)] [] [] (qs (vj h (fun x_=>aY [(0,vS s),(1,vI at_a1),(4,V.ref 20 0),(6,vI x1),(20,vB x_)] [(20,E.cells [vS [],V.t T.nilS])] [20]) (fun j2 h=> ?_) (fun x4 h=> ?_)))
 ·
  refine aR h (fun c1 h=> ?_) (fun c1 h=> ?_)
  ·obtain⟨x3,hx3,h⟩:=bd h
   exact rk hC (rF 4 c1++[oY hx3,oF c1,oF c1]) (fr 10 11) [(20,vB (!decide ((x3.toNat:Int)=91)))] [] [] (lE h)
  ·exact rk hC (rT 6 c1) (fr 10 11) [(20,vB true)] [] [] (lE h)
 ·refine aT h (fun c2 h=> ?_) (fun c2 h=> ?_)
  ·obtain rfl:=so h
   exact rq hC [] [5,21] [(5,vI (-1))] [(20,sc [vS [],V.t T.nilS])] [] (qr eR)
  ·refine qk (qs ?_)
   obtain⟨x5,hx5,x6,hx6,x7,hx7,h⟩:=kH h
   obtain rfl:=so h
   exact dk hC bD [oS hx5,oS hx6,oC [] [21] (l8 G hx7)] [5,22,23,24,25,26,27,28,29,30,31,32,33,34,35] [(5,vI (wr (x1+1)))] [(21,some (ar 63 1 2 aA x7)),(20,sc [vS x5,ms 21 1 2 aA x7])] [(21,true)] (qw (lk hC [.fz 21 [] [20]] [] [] [(20,sc [vS x5,vM aA x7]),(21,none)] []) (qr eR))
theorem aAw(G:GS)(n:Nat)(self:(List UInt8)→Int→Int→Option (Expr×Int))(hself: ∀(q0:List UInt8) (q1:Int) (q2:Int) {r:Expr×Int},self q0 q1 q2=some r→PQ G 291 [vS q0,vI q1,vI q2] (V.tup [V.agg (cO r.1),vI r.2]))(s:List UInt8)(at_a1:Int)(levels:Int){r:Expr×Int}(h:wV n self s at_a1 levels=some r):PQ G 316 [vS s,vI at_a1,vI levels] (V.tup [V.agg (cO r.1),vI r.2]):=by
 unfold wV at h
 refine pq aN Tryz.func316 rfl fun w X hC=> ?_
 refine rq hC [.z (.nat 20)] [6,7] [(6,V.ref 20 0)] [(20,sc [vI 0,vI 0,V.t T.nilS,vI 0,vS [],V.t T.nilS,V.t T.nilS])] [(20,true)] ?_
 obtain⟨x1,hx1,h⟩:=bd h
 refine rq hC [oV (hself s at_a1 levels hx1),.z (.nat 21)] [8,9,13,14,15,16,17,18,19] [(8,V.ref 21 0),(9,vI x1.2)] [(21,some (E.cells (cO x1.1)))] [(21,true)] (qs (vj h (fun x_=>aY [(0,vS s),(2,vI levels),(6,V.ref 20 0),(8,V.ref 21 0),(9,vI x1.2),(27,vB x_)] [(20,E.cells [vI 0,vI 0,V.t T.nilS,vI 0,vS [],V.t T.nilS,V.t T.nilS]),(21,E.cells (cO x1.1))] [20,21]) (fun j2 h=> ?_) (fun x3 h=> ?_)))
 ·
  refine aR h (fun c1 h=> ?_) (fun c1 h=> ?_)
  ·exact rk hC (rF 5 c1) (fr 20 8) [(27,vB (decide ((s.length:Int)≤x1.2)))] [] [] (lE h)
  ·exact rk hC (rT 5 c1) (fr 20 8) [(27,vB true)] [] [] (lE h)
 ·refine aT h (fun c2 h=> ?_) (fun c2 h=> ?_)
  ·obtain rfl:=so h
   exact rq hC [] [7,28] [(7,vI (-1))] [(20,sc [vI 0,vI 0,V.t T.nilS,vI 0,vS [],V.t T.nilS,V.t T.nilS])] [] (qr eR)
  ·refine qk (rq hC [] [10] [(10,vI 4)] [] [] (vj h (fun x_=>aY [(0,vS s),(2,vI levels),(6,V.ref 20 0),(8,V.ref 21 0),(9,vI x1.2),(10,vI x_)] [(20,E.cells [vI 0,vI 0,V.t T.nilS,vI 0,vS [],V.t T.nilS,V.t T.nilS]),(21,E.cells (cO x1.1))] [20,21]) (fun j4 h=> ?_) (fun x6 h=> ?_)))
   ·
    obtain⟨x5,hx5,h⟩:=bd h
    refine rq hC [oY hx5] [29,30,31] [(31,vY x5)] [] [] (qb (rq hC [] [32,33] [(32,vB (decide ((x5.toNat:Int)=45)))] [] [] (aT h (fun c3 h=> ?_) (fun c3 h=> ?_))))
    ·exact rk hC [] [10] [(10,vI 5)] [] [] (lE h)
    ·refine rq hC [] [34,35] [(34,vB (decide ((x5.toNat:Int)=42)))] [] [] (aT h (fun c4 h=> ?_) (fun c4 h=> ?_))
     ·exact rk hC [] [10] [(10,vI 6)] [] [] (lE h)
     ·exact qk (lE h)
   ·obtain⟨x7,hx7,h⟩:=bd h
    refine rq hC [oV (hself s (wr (x1.2+1)) levels hx7),.z (.nat 22)] [11,12,36,37,38,39,40,41,42,43] [(11,V.ref 22 0),(12,vI x7.2)] [(22,some (E.cells (cO x7.1)))] [(22,true)] (qs (vj h (fun x_=>aY [(6,V.ref 20 0),(8,V.ref 21 0),(10,vI x6),(11,V.ref 22 0),(12,vI x7.2),(51,vB x_)] [(20,E.cells [vI 0,vI 0,V.t T.nilS,vI 0,vS [],V.t T.nilS,V.t T.nilS]),(21,E.cells (cO x1.1)),(22,E.cells (cO x7.1))] [20,21,22]) (fun j8 h=> ?_) (fun x9 h=> ?_)))
    ·
     refine aR h (fun c5 h=> ?_) (fun c5 h=> ?_)
     ·exact rk hC (rF 5 c5) (fr 44 8) [(51,vB (decide ((s.length:Int)≤x7.2)))] [] [] (lE h)
     ·exact rk hC (rT 5 c5) (fr 44 8) [(51,vB true)] [] [] (lE h)
    ·refine aT h (fun c6 h=> ?_) (fun c6 h=> ?_)
     ·obtain rfl:=so h
      exact rq hC [] [7,52] [(7,vI (-1))] [(20,sc [vI 0,vI 0,V.t T.nilS,vI 0,vS [],V.t T.nilS,V.t T.nilS])] [] (qr eR)
     ·obtain rfl:=so h
      exact qk (rq hC [.z (.int 2),.z (.rows (List.map aH [x1.1,x7.1])),oQ (aGP x1.1 x7.1)] [7,53,54,55,56,57,58,59] [(7,vI (wr (x7.2+1)))] [(20,sc [vI x6,vI 0,V.t T.nilS,vI 0,vS [],V.t T.nilS,vM aH [x1.1,x7.1]])] [] (qr eR))
theorem aAy(G:GS): ∀(n:Nat) (s:List UInt8) (at_a1:Int) (levels:Int) {r:Expr×Int} (h:s_l3Parse n s at_a1 levels=some r),PQ G 291 [vS s,vI at_a1,vI levels] (V.tup [V.agg (cO r.1),vI r.2]):=by
 intro n
 induction n with
 |zero=>intro s at_a1 levels r h;rw [s_l3Parse.eq_def] at h;cases h
 |succ n ih=>
  intro s at_a1 levels r h
  rw [s_l3Parse.eq_def] at h;dsimp only at h
  refine pq aN Tryz.func291 rfl fun w X hC=> ?_
  refine rq hC [.z (.nat 20)] [6,7] [(6,V.ref 20 0)] [(20,sc [vI 0,vI 0,V.t T.nilS,vI 0,vS [],V.t T.nilS,V.t T.nilS])] [(20,true)] (qs (vj h (fun x_=>aY [(0,vS s),(1,vI at_a1),(2,vI levels),(6,V.ref 20 0),(26,vB x_)] [(20,E.cells [vI 0,vI 0,V.t T.nilS,vI 0,vS [],V.t T.nilS,V.t T.nilS])] [20]) (fun j1 h=> ?_) (fun x2 h=> ?_)))
  ·
   refine aR h (fun c1 h=> ?_) (fun c1 h=> ?_)
   ·refine aR h (fun c2 h=> ?_) (fun c2 h=> ?_)
    ·exact rk hC (rF 3 c1++rF 5 c2) (fr 15 12) [(26,vB (decide ((s.length:Int)≤at_a1)))] [] [] (lE h)
    ·exact rk hC (rF 3 c1++rT 5 c2) (fr 15 12) [(26,vB true)] [] [] (lE h)
   ·exact rk hC (rT 3 c1++sT 5) (fr 15 12) [(26,vB true)] [] [] (lE h)
  ·refine aT h (fun c3 h=> ?_) (fun c3 h=> ?_)
   ·obtain rfl:=so h
    exact rq hC [] [7,27] [(7,vI (-1))] [(20,sc [vI 0,vI 0,V.t T.nilS,vI 0,vS [],V.t T.nilS,V.t T.nilS])] [] (qr eR)
   ·refine qk (qs (qb ?_))
    obtain⟨x3,hx3,h⟩:=bd h
    refine rq hC [oY hx3] (fr 28 5) [(28,vB (decide ((x3.toNat:Int)=123)))] [] [] (aT h (fun c4 h=> ?_) (fun c4 h=> ?_))
    ·obtain⟨x4,hx4,h⟩:=bd h
     refine rq hC [oV (yJ G hx4)] [8,33,34,35] [(8,vI x4)] [] [] (qs (rq hC [] [36,37] [(37,vB (decide (x4<0)))] [] [] (aT h (fun c5 h=> ?_) (fun c5 h=> ?_))))
     ·obtain rfl:=so h
      exact rq hC [] [7,38] [(7,vI (-1))] [(20,sc [vI 0,vI 0,V.t T.nilS,vI 0,vS [],V.t T.nilS,V.t T.nilS])] [] (qr eR)
     ·refine qk ?_
      obtain⟨x5,hx5,x6,hx6,h⟩:=cT h
      obtain rfl:=so h
      exact rq hC [oS hx5,oV (qY G hx6),.z (.nat 21)] [9,10,39,40,41,42,43,44,45,46,47] [(9,V.ref 21 0)] [(21,some (E.cells (aJ x6.1)))] [(21,true)] (rq hC [] [7,48,49,50,51] [(7,vI (wr (x4+1)))] [(20,sc [vI 2,vI 0,vM rI x6.1.coefs,vI x6.1.const,vS [],V.t T.nilS,V.t T.nilS])] [] (qr eR))
    ·refine vj h (fun x_=>aY [(0,vS s),(1,vI at_a1),(2,vI levels),(6,V.ref 20 0),(52,vB x_)] [(20,E.cells [vI 0,vI 0,V.t T.nilS,vI 0,vS [],V.t T.nilS,V.t T.nilS])] [20]) (fun j7 h=> ?_) (fun x8 h=> ?_)
     ·
      refine aR h (fun c6 h=> ?_) (fun c6 h=> ?_)
      ·exact rk hC ([oY hx3]++rF 5 c6) (fr 52 11) [(52,vB false)] [] [] (lE h)
      ·exact rk hC ([oY hx3]++rT 3 c6++[oY hx3,oT c6,oT c6]) (fr 52 11) [(52,vB (decide ((x3.toNat:Int)≤68)))] [] [] (lE h)
     ·refine aT h (fun c7 h=> ?_) (fun c7 h=> ?_)
      ·obtain⟨x9,hx9,h⟩:=bd h
       obtain rfl:=so h
       exact rq hC [oV (oB G hx9),.z (.nat 21)] [11,12,63,64,65,66,67,68] [(11,V.ref 21 0),(12,vI x9.2)] [(21,some (E.cells (b8 x9.1)))] [(21,true)] (rq hC [] [7,69,70,71] [(7,vI x9.2)] [(20,sc [vI 3,vI 0,V.t T.nilS,vI 0,vS x9.1.array,vM aA x9.1.subs,V.t T.nilS])] [] (qr eR))
      ·refine rq hC [oY hx3] (fr 72 5) [(72,vB (decide ((x3.toNat:Int)=40)))] [] [] (aT h (fun c8 h=> ?_) (fun c8 h=> ?_))
       ·obtain⟨x10,hx10,h⟩:=bd h
        obtain rfl:=so h
        exact rq hC [oV (aAw G n (s_l3Parse n) (fun q0 q1 q2 r h=>ih q0 q1 q2 h) s (wr (at_a1+1)) (wr (levels-1)) hx10)] [7,77,78,79,80,81,82,83,84] [(7,vI x10.2)] [(20,some (E.cells (cO x10.1)))] [] (qr eR)
       ·refine qk ?_
        obtain⟨x11,hx11,h⟩:=bd h
        refine rq hC [oV (wA G hx11)] [13,14,85,86,87,88,89,90] [(13,vI x11.1),(14,vI x11.2)] [] [] (qs (rq hC [] [91,92,93] [(93,vB (decide (x11.2=at_a1)))] [] [] (aT h (fun c9 h=> ?_) (fun c9 h=> ?_))))
        ·obtain rfl:=so h
         exact rq hC [] [7,94] [(7,vI (-1))] [(20,sc [vI 0,vI 0,V.t T.nilS,vI 0,vS [],V.t T.nilS,V.t T.nilS])] [] (qr eR)
        ·obtain rfl:=so h
         exact qk (rq hC [] [7,95,96,97] [(7,vI x11.2)] [(20,sc [vI 1,vI x11.1,V.t T.nilS,vI 0,vS [],V.t T.nilS,V.t T.nilS])] [] (qr eR))
theorem nT{list}{r}(h:jL n list=some r):PQ G 293 [vM aA list] (vS r):=by
 unfold jL at h
 refine pq aN Tryz.func293 rfl fun w X hC=> ?_
 refine rq hC [] [2] [] [] [] (rq hC [] [3] [(3,vS [])] [] [] (qs (rq hC [] [4] [(4,vI 0)] [] [] (qb (jA h (fun x_=>aY [(0,vM aA list),(3,vS x_.1),(4,vI x_.2)] [] []) lS ?_)))))
 rintro again3 ⟨x1,x2⟩ h
 refine qs (rq hC [oN aA list] (fr 5 4) [(8,vB (decide (x2<(list.length:Int))))] [] [] (aT h (fun c1 h=> ?_) (fun c1 h=> ?_)))
 ·refine qk (qs (qb (vj h (fun x_=>aY [(0,vM aA list),(3,vS x_),(4,vI x2)] [] []) (fun j4 h=> ?_) (fun x6 h=> ?_))))
  ·
   refine rq hC [] [11,12] [(12,vB (decide ((0:Int)<x2)))] [] [] (aT h (fun c2 h=> ?_) (fun c2 h=> ?_))
   ·obtain⟨x5,hx5,h⟩:=bd h
    exact rk hC [oS hx5] [3,13,14] [(3,vS x5)] [] [] (lE h)
   ·exact qk (lE h)
  ·obtain⟨x7,hx7,x8,hx8,x9,hx9,h⟩:=kH h
   exact rk hC [oR aA hx7,oV (uJ G hx8),oS hx9] [3,15,16,17,18,19,20,21] [(3,vS x9)] [] [] (rk hC [] [4,9,10] [(4,vI (wr (x2+1)))] [] [] (lE h))
 ·obtain rfl:=so h
  exact cQ (rq hC [] [2,22] [(2,vS x1)] [] [] (qr eR))
theorem lB{a}{r}(h:gH n a=some r):PQ G 268 [V.agg (b8 a)] (vS r):=by
 unfold gH at h
 refine pq aN Tryz.func268 rfl fun w X hC=> ?_
 refine rq hC [.z (.b (true))] [1,2] [(1,V.tp (dB a))] [] [] (qs ?_)
 obtain⟨x1,hx1,x2,hx2,x3,hx3,h⟩:=kH h
 obtain⟨x4,hx4,h⟩:=bd h
 obtain rfl:=so h
 exact dk hC bD [oS hx1,oV (nT G hx2),oS hx3,oS hx4] (fr 2 9) [(2,vS x4)] [] [] (qr eR)
theorem G8(G:GS): ∀(n:Nat) (e:Expr) {r:(List UInt8)} (h:s_l3Text n e=some r),PQ G 269 [V.agg (cO e)] (vS r):=by
 intro n
 induction n with
 |zero=>intro e r h;rw [s_l3Text.eq_def] at h;cases h
 |succ n ih=>
  intro e r h
  rw [s_l3Text.eq_def] at h;dsimp only at h
  refine pq aN Tryz.func269 rfl fun w X hC=> ?_
  refine rq hC [.z (.b (true))] [1,2] [(1,V.tp (eX e))] [] [] (qs (rq hC [] [3,4] [(4,vI e.kind)] [] [] (qb (rq hC [] [5,6] [(5,vB (decide (e.kind=1)))] [] [] (aT h (fun c1 h=> ?_) (fun c1 h=> ?_))))))
  ·obtain⟨x1,hx1,h⟩:=bd h
   obtain rfl:=so h
   exact rq hC [oV (qR G n e.num hx1)] [2,7,8,9] [(2,vS x1)] [] [] (qr eR)
  ·refine rq hC [] [10,11] [(10,vB (decide (e.kind=2)))] [] [] (aT h (fun c2 h=> ?_) (fun c2 h=> ?_))
   ·obtain⟨x2,hx2,x3,hx3,x4,hx4,h⟩:=kH h
    obtain rfl:=so h
    exact rq hC [oV (uJ G hx2),oS hx3,oS hx4] [2,12,13,14,15,16] [(2,vS x4)] [] [] (qr eR)
   ·refine rq hC [] [17,18] [(17,vB (decide (e.kind=3)))] [] [] (aT h (fun c3 h=> ?_) (fun c3 h=> ?_))
    ·obtain⟨x5,hx5,h⟩:=bd h
     obtain rfl:=so h
     exact rq hC [oV (lB G hx5)] [2,19,20,21] [(2,vS x5)] [] [] (qr eR)
    ·refine qk (qs ?_)
     obtain⟨x6,hx6,x7,hx7,x8,hx8,h⟩:=kH h
     obtain⟨x9,hx9,x10,hx10,x11,hx11,h⟩:=kH h
     obtain⟨x12,hx12,x13,hx13,x14,hx14,h⟩:=kH h
     obtain rfl:=so h
     exact dk hC bD [.z (.row (d7 x6)),oQ (eY aH hx6 (cS x6)),oV (ih x6 hx7),oS hx8,oS hx9,oS hx10,.z (.row (d7 x11)),oQ (eY aH hx11 (cS x11)),oV (ih x11 hx12),oS hx13,oS hx14] [2,22,23,24,25,26,27,28,29,30,31,32,33,34,35,36,37,38,39,40,41,42,43] [(2,vS x14)] [] [] (qr eR)
theorem I1{s}{r}(h:pU n s=some r):PQ G 292 [V.agg (cV s)] (vS r):=by
 unfold pU at h
 refine pq aN Tryz.func292 rfl fun w X hC=> ?_
 refine rq hC [.z (.b (true))] [1,2] [(1,V.tp (m7 s))] [] [] (qs ?_)
 obtain⟨x1,hx1,h⟩:=bd h
 refine rq hC [oV (oH G hx1)] [3,4,5] [(5,vB (!x1))] [] [] (aT h (fun c1 h=> ?_) (fun c1 h=> ?_))
 ·obtain rfl:=so h
  exact rq hC [] [2] [(2,vS [])] [] [] (qr eR)
 ·refine qk (qs ?_)
  obtain⟨x2,hx2,x3,hx3,x4,hx4,h⟩:=kH h
  obtain⟨x5,hx5,h⟩:=bd h
  obtain rfl:=so h
  exact dk hC bD [oV (lB G hx2),oS hx3,oV (G8 G n s.value hx4),oS hx5] [2,6,7,8,9,10,11,12,13] [(2,vS x5)] [] [] (qr eR)
theorem tQ{text}{r}(h:lO n text=some r):PQ G 265 [vS text] (V.tup [V.agg (cV r.1),vB r.2]):=by
 unfold lO at h
 refine pq aN Tryz.func265 rfl fun w X hC=> ?_
 refine rq hC [.z (.nat 20)] [2,3] [(2,V.ref 20 0)] [(20,sc [vS [],V.t T.nilS,vI 0,vI 0,V.t T.nilS,vI 0,vS [],V.t T.nilS,V.t T.nilS])] [(20,true)] (qs (rq hC [] [9,10,11] [(11,vB (decide ((text.length:Int)<4)))] [] [] (aT h (fun c1 h=> ?_) (fun c1 h=> ?_))))
 ·obtain rfl:=so h
  exact rq hC [] [3,12] [(3,vB false)] [(20,sc [vS [],V.t T.nilS,vI 0,vI 0,V.t T.nilS,vI 0,vS [],V.t T.nilS,V.t T.nilS])] [] (qr eR)
 ·refine qk ?_
  obtain⟨x1,hx1,h⟩:=bd h
  refine rq hC [oV (oB G hx1),.z (.nat 21)] [4,5,13,14,15,16,17] [(4,V.ref 21 0),(5,vI x1.2)] [(21,some (E.cells (b8 x1.1)))] [(21,true)] (qs (vj h (fun x_=>aY [(0,vS text),(2,V.ref 20 0),(4,V.ref 21 0),(5,vI x1.2),(25,vB x_)] [(20,E.cells [vS [],V.t T.nilS,vI 0,vI 0,V.t T.nilS,vI 0,vS [],V.t T.nilS,V.t T.nilS]),(21,E.cells (b8 x1.1))] [20,21]) (fun j2 h=> ?_) (fun x3 h=> ?_)))
  ·
   refine aR h (fun c2 h=> ?_) (fun c2 h=> ?_)
   ·exact rk hC (rF 5 c2) (fr 18 8) [(25,vB (decide ((text.length:Int)≤x1.2)))] [] [] (lE h)
   ·exact rk hC (rT 5 c2) (fr 18 8) [(25,vB true)] [] [] (lE h)
  ·refine aT h (fun c3 h=> ?_) (fun c3 h=> ?_)
   ·obtain rfl:=so h
    exact rq hC [] [3,26] [(3,vB false)] [(20,sc [vS [],V.t T.nilS,vI 0,vI 0,V.t T.nilS,vI 0,vS [],V.t T.nilS,V.t T.nilS])] [] (qr eR)
   ·refine qk ?_
    obtain⟨x4,hx4,h⟩:=bd h
    refine rq hC [oV (aAy G n text (wr (x1.2+1)) 5 hx4),.z (.nat 22)] [6,7,27,28,29,30,31,32,33] [(6,V.ref 22 0)] [(22,some (E.cells (cO x4.1)))] [(22,true)] (rq hC [.z (.nat 23)] [8,34,35,36] [(8,V.ref 23 0)] [(23,sc [vS x1.1.array,vM aA x1.1.subs,vI x4.1.kind,vI x4.1.num,vM rI x4.1.index.coefs,vI x4.1.index.const,vS x4.1.read.array,vM aA x4.1.read.subs,vM aH x4.1.kids])] [(23,true)] (qs ?_))
    obtain⟨x5,hx5,h⟩:=bd h
    refine rq hC [oV (I1 G hx5)] (fr 37 4) [(40,vB (!decide (x5=text)))] [] [] (aT h (fun c4 h=> ?_) (fun c4 h=> ?_))
    ·obtain rfl:=so h
     exact rq hC [] [3,41] [(3,vB false)] [(20,sc [vS [],V.t T.nilS,vI 0,vI 0,V.t T.nilS,vI 0,vS [],V.t T.nilS,V.t T.nilS])] [] (qr eR)
    ·obtain rfl:=so h
     exact qk (rq hC [] [3,42] [(3,vB true)] [(20,sc [vS x1.1.array,vM aA x1.1.subs,vI x4.1.kind,vI x4.1.num,vM rI x4.1.index.coefs,vI x4.1.index.const,vS x4.1.read.array,vM aA x4.1.read.subs,vM aH x4.1.kids])] [] (qr eR))
theorem aAt{w_a0}{r}(h:wU n w_a0=some r):PQ G 263 [vM rS w_a0] (V.agg [vS r.name,vM rI r.dims]):=by
 unfold wU at h
 refine pq aN Tryz.func263 rfl fun w X hC=> ?_
 refine rq hC [.z (.nat 20)] [2] [(2,V.ref 20 0)] [(20,sc [vS [],V.t T.nilS])] [(20,true)] (rq hC [.z (.nat 21)] [3,7] [(3,V.ref 21 0)] [(21,sc [vS [],V.t T.nilS])] [(21,true)] (qs (rq hC [] [4] [(4,vI 1)] [] [] (qb (qw (lk hC [.growc 21 1 22 3] [] [] [(22,some (ar 3 1 1 rI [])),(21,sc [vS [],ms 22 1 1 rI []])] [(22,true)]) ?_)))))
 refine bC (γ:=Nat) h (fun x_ g_=>aY [(0,vM rS w_a0),(2,V.ref 20 0),(3,V.ref 21 0),(4,vI x_.2.2)] [(20,E.cells [vS [],V.t T.nilS]),(21,E.cells [vS x_.1,ms 22 g_ 1 rI x_.2.1]),(22,ar 3 g_ 1 rI x_.2.1)] [20,21,22]) 1 (lS) ?_
 rintro again5 ⟨x1,x2,x3⟩ g4 h
 refine qs (vj h (fun x_=>aY [(0,vM rS w_a0),(2,V.ref 20 0),(3,V.ref 21 0),(4,vI x3),(15,vB x_)] [(20,E.cells [vS [],V.t T.nilS]),(21,E.cells [vS x1,ms 22 g4 1 rI x2]),(22,ar 3 g4 1 rI x2)] [20,21,22]) (fun j6 h=> ?_) (fun x7 h=> ?_))
 ·
  refine aR h (fun c1 h=> ?_) (fun c1 h=> ?_)
  ·exact rk hC ([oN rS w_a0]++rF 3 c1) (fr 8 8) [(15,vB false)] [] [] (lE h)
  ·exact rk hC ([oN rS w_a0]++rT 3 c1) (fr 8 8) [(15,vB (decide (x3≤4)))] [] [] (lE h)
 ·refine aT h (fun c2 h=> ?_) (fun c2 h=> ?_)
  ·refine qk ?_
   obtain⟨j8,hj8,h⟩:=J7 h
   refine m5 (γ:=Nat) (j:=j8) (r:=r) (fun x_ g_=>aY [(0,vM rS w_a0),(2,V.ref 20 0),(3,V.ref 21 0),(4,vI x3)] [(20,E.cells [vS [],V.t T.nilS]),(21,E.cells [vS x_.1,ms 22 g_ 1 rI x_.2]),(22,ar 3 g_ 1 rI x_.2)] [20,21,22]) ?_ ?_
   ·
    refine qb (qs (rq hC [] [18,19] [(19,vB (decide (x3=1)))] [] [] (aT h (fun c3 h=> ?_) (fun c3 h=> ?_))))
    ·obtain⟨x9,hx9,h⟩:=bd h
     exact rq hC [oR rS hx9] (fr 20 4) [] [(21,sc [vS x9,ms 22 g4 1 rI x2])] [] (cQ ⟨(x9,x2),g4,h,lS⟩)
    ·refine qk ?_
     obtain⟨x10,hx10,x11,hx11,h⟩:=cT h
     refine rq hC [oR rS hx10,oV (H9 G hx11)] [5,6,24,25,26,27,28,29,30,31] [(5,vI x11.1)] [] [] ?_
     obtain⟨x12,hx12,h⟩:=bd h
     exact rk hC [.z (.int 0),oA (aO rI hx12),oQ (bO (r:=rI) 1 (fun _=>rfl) x2),oQ (bO (r:=rI) 1 (fun _=>rfl) [x11.1])] (fr 32 6) [] [(22,some (ar 3 (g4+1) 1 rI x12)),(21,sc [vS x1,ms 22 (g4+1) 1 rI x12])] [] ⟨(x1,x12),(g4+1),h,lS⟩
   ·rintro⟨x13,x14⟩ g15 h
    subst hj8
    exact rk hC [] [4,16,17] [(4,vI (wr (x3+1)))] [] [] ⟨(x13,x14,wr (x3+1)),g15,h,lS⟩
  ·obtain rfl:=so h
   exact cQ (rq hC [.z (.at 2),.z (.fz 22 [] [21])] [38] [] [(21,sc [vS x1,vM rI x2]),(22,none),(20,sc [vS x1,vM rI x2])] [] (qr eR))
def sE:List Nd:=[⟨60,2,[(0,1),(1,2)]⟩,⟨56,2,[]⟩,⟨86,9,[]⟩]
theorem aB2(G:GS)(n:Nat)(p:Prog)(line:List UInt8)(g0 g1:Nat){r:Prog}(h:zZ n p line=some r):VQ G 230 [ar 76 g0 2 aK p.arrays,E.tree sE 0 g1 (List.map aD p.parts) []] [V.agg [ms 0 g0 2 aK p.arrays,ms 1 g1 2 aD p.parts],vS line] (V.agg [ms 0 (g0+1) 2 aK r.arrays,ms 1 (g1+1) 2 aD r.parts]) [ar 76 (g0+1) 2 aK r.arrays,E.tree sE 0 (g1+1) (List.map aD r.parts) []]:=by
 unfold zZ at h
 refine vq aN Tryz.func230 rfl fun w X β0 hC hg=> ?_
 refine rq hC [.z (.nat 20),.z (.nat 21)] [0,2,4] [(2,V.ref 20 0),(4,V.ref 21 0)] [(20,sc [ms 0 g0 2 aK p.arrays,ms 1 g1 2 aD p.parts]),(21,sc [V.t T.nilS,V.t T.nilS])] [(20,true),(21,true)] ?_
 obtain⟨x1,hx1,h⟩:=bd h
 refine rq hC [oC [] [22] (wB G hx1)] [5,11,12] [(5,ms 22 1 1 rS x1)] [(22,some (ar 9 1 1 rS x1))] [(22,true)] (rq hC [oN aD p.parts] [6,13,14,15,16] [(6,vI (wr ((p.parts.length:Int)-1)))] [] [] (qw (lk hC [.fz 22 [5] []] [5] [(5,vM rS x1)] [(22,none)] []) (qs (qb (vj h (fun x_=>aY [(1,vS line),(2,V.ref 20 0),(4,V.ref 21 0),(5,vM rS x1),(6,vI (wr ((p.parts.length:Int)-1))),(17,vB x_)] [(0,ar 76 g0 2 aK p.arrays),(1,E.tree sE 0 g1 (List.map aD p.parts) []),(20,E.cells [ms 0 g0 2 aK p.arrays,ms 1 g1 2 aD p.parts]),(21,E.cells [V.t T.nilS,V.t T.nilS])] [0,1,20,21,22]) (fun j2 h=> ?_) (fun x4 h=> ?_))))))
 ·
  refine aR h (fun c1 h=> ?_) (fun c1 h=> ?_)
  ·exact rk hC ([oN rS x1]++rF 5 c1) (fr 17 10) [(17,vB false)] [] [] (lE h)
  ·obtain⟨x3,hx3,h⟩:=bd h
   exact rk hC ([oN rS x1,oT c1,oT c1,oR rS hx3]++rT 3 c1) (fr 17 10) [(17,vB (decide (x3=[97,114,114,97,121])))] [] [] (lE h)
 ·refine aT h (fun c2 h=> ?_) (fun c2 h=> ?_)
  ·obtain⟨x5,hx5,x6,hx6,h⟩:=cT h
   obtain rfl:=so h
   exact dk hC bD [oV (aAt G hx5),.z (.int 0),oA (aO aK hx6),oQ (bO (r:=aK) 2 fU p.arrays),oQ (bO (r:=aK) 2 fU [x5])] (fr 27 7) [] [(0,some (ar 76 (g0+1) 2 aK x6)),(20,sc [ms 0 (g0+1) 2 aK x6,ms 1 g1 2 aD p.parts])] [] (rq hC [] [98] [] [(21,sc [ms 0 (g0+1) 2 aK x6,ms 1 g1 2 aD p.parts])] [] (qw (dH 21 1 1 g1 g1 2 0 (List.map aD p.parts).length (e:=E.tree sE 0 g1 (List.map aD p.parts) []) (cs:=[ms 0 (g0+1) 2 aK x6,ms 1 g1 2 aD p.parts]) rfl (by kernel_rfl) (by kernel_rfl) (by kernel_rfl) (by kernel_rfl) rfl rfl hg.2.1) (qr eW)))
  ·refine rq hC [] [34,35,36] [(34,vB (decide (line=[112,97,114,116])))] [] [] (aT h (fun c3 h=> ?_) (fun c3 h=> ?_))
   ·obtain⟨x7,hx7,h⟩:=bd h
    obtain rfl:=so h
    exact rk hC [.z (.at 4),.z (.growa 39 0 24 56),.z (.growa 39 1 25 86),.z (.lt 26 sE 0),.z (.rows (List.map aD (p.parts++[(⟨[],[]⟩:Part)]))),.z (.at 2),.z (.tre 24 sE 1),.z (.unf 1 24 (aD (⟨[],[]⟩:Part)) (List.map aD (p.parts++[(⟨[],[]⟩:Part)]))),.z (.tre 25 sE 2),.z (.unf 1 25 (aD (⟨[],[]⟩:Part)) (List.map aD x7)),.z (.len 41 (List.map aD x7).length),oQ (Eq.refl (ndOf sE 0)),oQ (aFz aD (⟨[],[]⟩:Part) hx7),oQ (bO (r:=aD) 2 bT p.parts),oQ (bO (r:=aD) 2 bT [(⟨[],[]⟩:Part)]),oQ (Eq.refl (List.map aC []).length),oQ (Eq.refl sE),oQ (S0 aD p.parts (⟨[],[]⟩:Part)),oQ (aEk aD p.parts (ph:=(⟨[],[]⟩:Part)) (y:=(⟨[],[]⟩:Part)) rfl),oQ (Eq.refl (List.map aG []).length),oQ (Eq.refl sE),oQ (S0 aD p.parts (⟨[],[]⟩:Part)),oQ (Y2 aD hx7 (ph:=(⟨[],[]⟩:Part)) rfl),oQ (aED aD (⟨[],[]⟩:Part) hx7)] (fr 37 6) [] [(24,none),(25,none),(26,some (E.tree sE 0 1 (List.map aD [(⟨[],[]⟩:Part)]) [(0,0,ms 24 1 2 aC []),(0,1,ms 25 1 9 aG [])])),(1,some (E.tree sE 0 (g1+1) (List.map aD x7) [])),(20,sc [ms 0 g0 2 aK p.arrays,ms 1 (g1+1) 2 aD x7])] [(24,true),(25,true),(26,true)] (rq hC [] [98] [] [(21,sc [ms 0 g0 2 aK p.arrays,ms 1 (g1+1) 2 aD x7])] [] (qw (dH 21 0 0 g0 g0 2 0 (List.map aK p.arrays).length (e:= .arr 76 g0 2 (List.map aK p.arrays)) (cs:=[ms 0 g0 2 aK p.arrays,ms 1 (g1+1) 2 aD x7]) rfl (by kernel_rfl) (by kernel_rfl) (by kernel_rfl) (by kernel_rfl) rfl rfl hg.1) (qr eW)))
   ·refine vj h (fun x_=>aY [(1,vS line),(2,V.ref 20 0),(4,V.ref 21 0),(6,vI (wr ((p.parts.length:Int)-1))),(43,vB x_)] [(0,ar 76 g0 2 aK p.arrays),(1,E.tree sE 0 g1 (List.map aD p.parts) []),(20,E.cells [ms 0 g0 2 aK p.arrays,ms 1 g1 2 aD p.parts]),(21,E.cells [V.t T.nilS,V.t T.nilS])] [0,1,20,21,22]) (fun j6 h=> ?_) (fun x8 h=> ?_)
    ·
     refine aR h (fun c4 h=> ?_) (fun c4 h=> ?_)
     ·exact rk hC (rF 4 c4++sF 5) (fr 43 14) [(43,vB false)] [] [] (lE h)
     ·refine aR h (fun c5 h=> ?_) (fun c5 h=> ?_)
      ·exact rk hC ([oT c4,oT c4,oN rS x1,oT c4,oT c4]++rF 5 c5) (fr 43 14) [(43,vB false)] [] [] (lE h)
      ·obtain⟨x7,hx7,h⟩:=bd h
       exact rk hC ([oT c4,oT c4,oN rS x1,oT c4,oT c4,oT c5,oT c5,oR rS hx7]++rT 3 c5) (fr 43 14) [(43,vB (decide (x7=[102,111,114])))] [] [] (lE h)
    ·refine aT h (fun c6 h=> ?_) (fun c6 h=> ?_)
     ·obtain⟨x9,hx9,h⟩:=bd h
      refine rq hC [.z (.foc 1 24 (0+Int.toNat (wr ((p.parts.length:Int)-1))) 0 (aD x9)),.z (.foc 1 25 (0+Int.toNat (wr ((p.parts.length:Int)-1))) 1 (aD x9)),oX aD hx9,.z (.nat 23),oQ (tN aD hx9),oQ (kS aD hx9),oQ (tN aD hx9)] [7,57,58,59,60,61] [(7,V.ref 23 0)] [(1,some (E.tree sE 0 g1 (List.map aD p.parts) [((0+Int.toNat (wr ((p.parts.length:Int)-1))),1,ms 25 1 9 aG x9.body),((0+Int.toNat (wr ((p.parts.length:Int)-1))),0,ms 24 1 2 aC x9.nest)])),(24,some (E.tree sE 1 1 (List.map aC x9.nest) [])),(25,some (E.tree sE 2 1 (List.map aG x9.body) [])),(23,sc [ms 24 1 2 aC x9.nest,ms 25 1 9 aG x9.body])] [(24,true),(25,true),(23,true)] (qw (lk hC [.shd 24] [] [] [(24,some (ar 56 1 2 aC x9.nest))] []) (qs ?_))
      obtain⟨x10,hx10,x13,hx13,x14,hx14,h⟩:=kH h
      obtain rfl:=so h
      exact dk hC bD [oV (aCa G hx10),.z (.int 0),oA (aO aC hx13),oQ (bO (r:=aC) 2 bU x9.nest),oQ (bO (r:=aC) 2 bU [x10])] (fr 62 7) [] [(24,some (ar 56 2 2 aC x13)),(23,sc [ms 24 2 2 aC x13,ms 25 1 9 aG x9.body])] [] (rk hC [oQ (kS aD hx9),oX aD hx9,.z (.unf 1 25 (aD x9) (List.map aD p.parts)),.z (.tre 24 sE 1),.z (.unf 1 24 (aD x9) (List.map aD x14)),.z (.lenc 20 1 (List.map aD x14).length),oQ (Eq.refl (List.map aG x9.body).length),oQ (Eq.refl sE),oQ (tN aD hx9),oQ (aEl aD hx9 rfl),oQ (Eq.refl (List.map aC x13).length),oQ (Eq.refl sE),oQ (tN aD hx9),oQ (yR aD hx14 rfl),oQ (iH aD hx14)] (fr 69 5) [] [(24,none),(25,none),(1,some (E.tree sE 0 g1 (List.map aD x14) [])),(20,sc [ms 0 g0 2 aK p.arrays,ms 1 g1 2 aD x14])] [] (rq hC [] [98] [] [(21,sc [ms 0 g0 2 aK p.arrays,ms 1 g1 2 aD x14])] [] (qw (dH 21 0 0 g0 g0 2 0 (List.map aK p.arrays).length (e:= .arr 76 g0 2 (List.map aK p.arrays)) (cs:=[ms 0 g0 2 aK p.arrays,ms 1 g1 2 aD x14]) rfl (by kernel_rfl) (by kernel_rfl) (by kernel_rfl) (by kernel_rfl) rfl rfl hg.1) (qw (dH 21 1 1 g1 g1 2 0 (List.map aD x14).length (e:=E.tree sE 0 g1 (List.map aD x14) []) (cs:=[ms 0 (g0+1) 2 aK p.arrays,ms 1 g1 2 aD x14]) rfl (by kernel_rfl) (by kernel_rfl) (by kernel_rfl) (by kernel_rfl) rfl rfl hg.2.1) (qr eW)))))
     ·refine rq hC [] [74,75,76] [(74,vB (decide ((0:Int)≤wr ((p.parts.length:Int)-1))))] [] [] (aT h (fun c7 h=> ?_) (fun c7 h=> ?_))
      ·obtain⟨x11,hx11,h⟩:=bd h
       refine rq hC [.z (.foc 1 25 (0+Int.toNat (wr ((p.parts.length:Int)-1))) 1 (aD x11)),.z (.foc 1 26 (0+Int.toNat (wr ((p.parts.length:Int)-1))) 0 (aD x11)),oX aD hx11,.z (.nat 23),oQ (tN aD hx11),oQ (kS aD hx11),oQ (tN aD hx11)] [8,77,78,79,80,81] [(8,V.ref 23 0)] [(1,some (E.tree sE 0 g1 (List.map aD p.parts) [((0+Int.toNat (wr ((p.parts.length:Int)-1))),0,ms 26 1 2 aC x11.nest),((0+Int.toNat (wr ((p.parts.length:Int)-1))),1,ms 25 1 9 aG x11.body)])),(25,some (E.tree sE 2 1 (List.map aG x11.body) [])),(26,some (E.tree sE 1 1 (List.map aC x11.nest) [])),(23,sc [ms 26 1 2 aC x11.nest,ms 25 1 9 aG x11.body])] [(25,true),(26,true),(23,true)] (qw (lk hC [.shd 25] [] [] [(25,some (ar 86 1 9 aG x11.body))] []) ?_)
       obtain⟨x12,hx12,h⟩:=bd h
       refine rq hC [oV (tQ G hx12),.z (.nat 24)] [9,10,82,83,84,85,86] [(9,V.ref 24 0)] [(24,some (E.cells (cV x12.1)))] [(24,true)] ?_
       obtain⟨x15,hx15,x16,hx16,h⟩:=cT h
       obtain rfl:=so h
       exact rq hC [.z (.int 0),oA (aO aG hx15),oQ (bO (r:=aG) 9 dI x11.body),oQ (bO (r:=aG) 9 dI [x12.1])] (fr 87 6) [] [(25,some (ar 86 2 9 aG x15)),(23,sc [ms 26 1 2 aC x11.nest,ms 25 2 9 aG x15])] [] (rk hC [oQ (kS aD hx11),oX aD hx11,.z (.unf 1 26 (aD x11) (List.map aD p.parts)),.z (.tre 25 sE 2),.z (.unf 1 25 (aD x11) (List.map aD x16)),.z (.lenc 20 1 (List.map aD x16).length),oQ (Eq.refl (List.map aC x11.nest).length),oQ (Eq.refl sE),oQ (tN aD hx11),oQ (aEl aD hx11 rfl),oQ (Eq.refl (List.map aG x15).length),oQ (Eq.refl sE),oQ (tN aD hx11),oQ (yR aD hx16 rfl),oQ (iH aD hx16)] (fr 93 5) [] [(25,none),(26,none),(1,some (E.tree sE 0 g1 (List.map aD x16) [])),(20,sc [ms 0 g0 2 aK p.arrays,ms 1 g1 2 aD x16])] [] (rq hC [] [98] [] [(21,sc [ms 0 g0 2 aK p.arrays,ms 1 g1 2 aD x16])] [] (qw (dH 21 0 0 g0 g0 2 0 (List.map aK p.arrays).length (e:= .arr 76 g0 2 (List.map aK p.arrays)) (cs:=[ms 0 g0 2 aK p.arrays,ms 1 g1 2 aD x16]) rfl (by kernel_rfl) (by kernel_rfl) (by kernel_rfl) (by kernel_rfl) rfl rfl hg.1) (qw (dH 21 1 1 g1 g1 2 0 (List.map aD x16).length (e:=E.tree sE 0 g1 (List.map aD x16) []) (cs:=[ms 0 (g0+1) 2 aK p.arrays,ms 1 g1 2 aD x16]) rfl (by kernel_rfl) (by kernel_rfl) (by kernel_rfl) (by kernel_rfl) rfl rfl hg.2.1) (qr eW)))))
      ·obtain rfl:=so h
       exact qk (rq hC [] [98] [] [(21,sc [ms 0 g0 2 aK p.arrays,ms 1 g1 2 aD p.parts])] [] (qw (dH 21 0 0 g0 g0 2 0 (List.map aK p.arrays).length (e:= .arr 76 g0 2 (List.map aK p.arrays)) (cs:=[ms 0 g0 2 aK p.arrays,ms 1 g1 2 aD p.parts]) rfl (by kernel_rfl) (by kernel_rfl) (by kernel_rfl) (by kernel_rfl) rfl rfl hg.1) (qw (dH 21 1 1 g1 g1 2 0 (List.map aD p.parts).length (e:=E.tree sE 0 g1 (List.map aD p.parts) []) (cs:=[ms 0 (g0+1) 2 aK p.arrays,ms 1 g1 2 aD p.parts]) rfl (by kernel_rfl) (by kernel_rfl) (by kernel_rfl) (by kernel_rfl) rfl rfl hg.2.1) (qr eW))))
theorem aB7{nest}{r}(h:z7 n nest=some r):PQ G 267 [vM aC nest] (vS r):=by
 unfold z7 at h
 refine pq aN Tryz.func267 rfl fun w X hC=> ?_
 refine rq hC [] [2] [] [] [] (rq hC [] [3] [(3,vS [])] [] [] (qs (rq hC [] [4] [(4,vI 0)] [] [] (qb (jA h (fun x_=>aY [(0,vM aC nest),(3,vS x_.1),(4,vI x_.2)] [] []) lS ?_)))))
 rintro again3 ⟨x1,x2⟩ h
 refine qs (rq hC [oN aC nest] (fr 5 4) [(8,vB (decide (x2<(nest.length:Int))))] [] [] (aT h (fun c1 h=> ?_) (fun c1 h=> ?_)))
 ·refine qk (qs (qb ?_))
  obtain⟨x4,hx4,x5,hx5,x6,hx6,h⟩:=kH h
  obtain⟨x7,hx7,x8,hx8,x9,hx9,h⟩:=kH h
  obtain⟨x10,hx10,x11,hx11,h⟩:=cT h
  exact dk hC bD [oS hx4,oR aC hx5,oV (nT G hx6),oS hx7,oS hx8,oR aC hx5,oV (nT G hx9),oS hx10,oS hx11] [3,11,12,13,14,15,16,17,18,19,20,21,22,23,24,25,26,27,28] [(3,vS x11)] [] [] (rk hC [] [4,9,10] [(4,vI (wr (x2+1)))] [] [] (lE h))
 ·obtain rfl:=so h
  exact cQ (rq hC [] [2,29] [(2,vS x1)] [] [] (qr eR))
theorem wD{p}{r}(h:l6 n p=some r):PQ G 231 [V.agg (bJ p)] (vS r):=by
 unfold l6 at h
 refine pq aN Tryz.func231 rfl fun w X hC=> ?_
 refine rq hC [.z (.b (true))] [1,2] [(1,V.tp (cR p))] [] [] (qs ?_)
 obtain⟨x1,hx1,h⟩:=bd h
 refine rq hC [oV (cN G hx1)] [9,10,11] [(11,vB (!x1))] [] [] (aT h (fun c1 h=> ?_) (fun c1 h=> ?_))
 ·obtain rfl:=so h
  exact rq hC [] [2] [(2,vS [])] [] [] (qr eR)
 ·refine qk (rq hC [] [3] [(3,vS [112,114,111,103,114,97,109,10])] [] [] (qs (rq hC [] [4] [(4,vI 0)] [] [] (qb (jA h (fun x_=>aY [(1,V.tp (cR p)),(3,vS x_.1),(4,vI x_.2)] [] []) lS ?_)))))
  rintro again4 ⟨x2,x3⟩ h
  refine qs (rq hC [oN aK p.arrays] (fr 12 5) [(16,vB (decide (x3<(p.arrays.length:Int))))] [] [] (aT h (fun c2 h=> ?_) (fun c2 h=> ?_)))
  ·refine qk (qs (qb ?_))
   obtain⟨x5,hx5,x6,hx6,x7,hx7,h⟩:=kH h
   refine rq hC [oS hx5,oR aK hx6,oS hx7] [3,19,20,21,22,23,24,25,26,27] [(3,vS x7)] [] [] (qs (rq hC [] [5] [(5,vI 0)] [] [] (qb (jA h (fun x_=>aY [(1,V.tp (cR p)),(3,vS x_.1),(4,vI x3),(5,vI x_.2)] [] []) lS ?_))))
   rintro again10 ⟨x8,x9⟩ h
   refine qs (rq hC [oR aK hx6,oN rI x6.dims] (fr 28 9) [(36,vB (decide (x9<(x6.dims.length:Int))))] [] [] (aT h (fun c3 h=> ?_) (fun c3 h=> ?_)))
   ·refine qk (qs (qb ?_))
    obtain⟨x11,hx11,x12,hx12,x13,hx13,h⟩:=kH h
    obtain⟨x14,hx14,h⟩:=bd h
    exact rk hC [oS hx11,oR aK hx6,oR rI hx12,oV (qR G n x12 hx13),oS hx14] [3,39,40,41,42,43,44,45,46,47,48,49,50,51] [(3,vS x14)] [] [] (rk hC [] [5,37,38] [(5,vI (wr (x9+1)))] [] [] (lE h))
   ·refine cQ ?_
    obtain⟨x15,hx15,h⟩:=bd h
    exact rk hC [oS hx15] [3,52,53] [(3,vS x15)] [] [] (rk hC [] [4,17,18] [(4,vI (wr (x3+1)))] [] [] (lE h))
  ·refine cQ (qs (rq hC [] [6] [(6,vI 0)] [] [] (qb (jA h (fun x_=>aY [(1,V.tp (cR p)),(3,vS x_.1),(6,vI x_.2)] [] []) lS ?_))))
   rintro again18 ⟨x16,x17⟩ h
   refine qs (rq hC [oN aD p.parts] (fr 54 5) [(58,vB (decide (x17<(p.parts.length:Int))))] [] [] (aT h (fun c4 h=> ?_) (fun c4 h=> ?_)))
   ·refine qk (qs (qb ?_))
    obtain⟨x19,hx19,x20,hx20,x21,hx21,h⟩:=kH h
    obtain⟨x22,hx22,h⟩:=bd h
    refine rq hC [oS hx19,oR aD hx20,oV (aB7 G hx21),oS hx22] [3,61,62,63,64,65,66,67,68,69,70] [(3,vS x22)] [] [] (rq hC [] [7] [(7,vI 0)] [] [] (qb (jA h (fun x_=>aY [(1,V.tp (cR p)),(3,vS x_.1),(6,vI x17),(7,vI x_.2)] [] []) lS ?_)))
    rintro again25 ⟨x23,x24⟩ h
    refine qs (rq hC [oR aD hx20,oN aG x20.body] (fr 71 9) [(79,vB (decide (x24<(x20.body.length:Int))))] [] [] (aT h (fun c5 h=> ?_) (fun c5 h=> ?_)))
    ·refine qk (qs (qb ?_))
     obtain⟨x26,hx26,h⟩:=bd h
     refine rq hC [oR aD hx20,oR aG hx26,.z (.nat 20)] [8,82,83,84,85,86,87,88,89,90] [(8,V.ref 20 0)] [(20,some (E.cells (cV x26)))] [(20,true)] ?_
     obtain⟨x27,hx27,x28,hx28,x29,hx29,h⟩:=kH h
     obtain⟨x30,hx30,x31,hx31,x32,hx32,h⟩:=kH h
     exact dk hC bD [oV (lB G hx27),oS hx28,oS hx29,oV (G8 G n x26.value hx30),oS hx31,oS hx32] [3,91,92,93,94,95,96,97,98,99,100,101] [(3,vS x32)] [] [] (rk hC [] [7,80,81] [(7,vI (wr (x24+1)))] [] [] (lE h))
    ·exact cQ (rk hC [] [6,59,60] [(6,vI (wr (x17+1)))] [] [] (lE h))
   ·obtain rfl:=so h
    exact cQ (rq hC [] [2,102] [(2,vS x16)] [] [] (qr eR))
theorem xO{text}{r}(h:d5 n text=some r):PQ G 182 [vS text] (V.tup [V.agg (bJ r.1),vB r.2]):=by
 unfold d5 at h
 refine pq aN Tryz.func182 rfl fun w X hC=> ?_
 refine rq hC [.z (.nat 20)] [2,3] [(2,V.ref 20 0)] [(20,sc [V.t T.nilS,V.t T.nilS])] [(20,true)] ?_
 obtain⟨x1,hx1,h⟩:=bd h
 refine rq hC [oC [] [21] (uO G hx1)] [4,7,8] [(4,ms 21 1 1 rS x1)] [(21,some (ar 9 1 1 rS x1))] [(21,true)] (rq hC [.z (.nat 22)] [5,9] [(5,V.ref 22 0)] [(22,sc [V.t T.nilS,V.t T.nilS])] [(22,true)] (qs (rq hC [oN rS x1] [10,11,12] [(12,vB (decide ((42:Int)<(x1.length:Int))))] [] [] (aT h (fun c1 h=> ?_) (fun c1 h=> ?_)))))
 ·obtain rfl:=so h
  exact rq hC [] [3,13] [(3,vB false)] [(20,sc [V.t T.nilS,V.t T.nilS])] [] (qr eR)
 ·refine qk (qs (rq hC [] [6] [(6,vI 1)] [] [] (qb (qw (lk hC [.growc 22 0 23 76,.growc 22 1 24 60,.tre 24 sE 0] [] [] [(23,some (ar 76 1 2 aK [])),(24,some (E.tree sE 0 1 (List.map aD []) [])),(22,sc [ms 23 1 2 aK [],ms 24 1 2 aD []])] [(23,true),(24,true)]) (bC (γ:=Nat×Nat) h (fun x_ g_=>aY [(0,vS text),(2,V.ref 20 0),(4,ms 21 1 1 rS x1),(5,V.ref 22 0),(6,vI x_.2.2)] [(20,E.cells [V.t T.nilS,V.t T.nilS]),(21,ar 9 1 1 rS x1),(22,E.cells [ms 23 g_.1 2 aK x_.1,ms 24 g_.2 2 aD x_.2.1]),(23,ar 76 g_.1 2 aK x_.1),(24,E.tree sE 0 g_.2 (List.map aD x_.2.1) [])] [20,21,22,23,24]) (1,1) (lS) ?_)))))
  rintro again5 ⟨x2,x3,x4⟩ ⟨g5,g6⟩ h
  refine qs (rq hC [oN rS x1] (fr 14 5) [(18,vB (decide (wr (x4+1)<(x1.length:Int))))] [] [] (aT h (fun c2 h=> ?_) (fun c2 h=> ?_)))
  ·refine qk (qs (qb ?_))
   obtain⟨x6,hx6,x7,hx7,h⟩:=cT h
   exact dk hC bD [oQ (kS rS hx6),oX rS hx6,oC [23,24] [] (aB2 G n (⟨x2,x3⟩:Prog) x6 g5 g6 hx7)] (fr 21 6) [] [(23,some (ar 76 (g5+1) 2 aK x7.arrays)),(24,some (E.tree sE 0 (g6+1) (List.map aD x7.parts) [])),(22,sc [ms 23 (g5+1) 2 aK x7.arrays,ms 24 (g6+1) 2 aD x7.parts])] [(23,true),(24,true)] (rk hC [] [6,19,20] [(6,vI (wr (x4+1)))] [] [] ⟨(x7.arrays,x7.parts,wr (x4+1)),(g5+1,g6+1),h,lS⟩)
  ·refine cQ (qs (vj h (fun x_=>aY [(2,V.ref 20 0),(5,V.ref 22 0),(34,vB x_)] [(20,E.cells [V.t T.nilS,V.t T.nilS]),(21,ar 9 1 1 rS x1),(22,E.cells [ms 23 g5 2 aK x2,ms 24 g6 2 aD x3]),(23,ar 76 g5 2 aK x2),(24,E.tree sE 0 g6 (List.map aD x3) [])] [20,21,22,23,24]) (fun j8 h=> ?_) (fun x10 h=> ?_)))
   ·
    refine aR h (fun c3 h=> ?_) (fun c3 h=> ?_)
    ·obtain⟨x9,hx9,h⟩:=bd h
     exact rk hC ([oF c3,oF c3,.z (.b true),.z (.nat 23),.z (.nat 24),oV (wD G hx9)]++rF 3 c3) (fr 27 8) [(34,vB (!decide (x9=text)))] [] [] (lE h)
    ·exact rk hC (rT 5 c3) (fr 27 8) [(34,vB true)] [] [] (lE h)
   ·refine aT h (fun c4 h=> ?_) (fun c4 h=> ?_)
    ·obtain rfl:=so h
     exact rq hC [] [3,35] [(3,vB false)] [(20,sc [V.t T.nilS,V.t T.nilS])] [] (qr eR)
    ·obtain rfl:=so h
     exact qk (qs (qw (lk hC [.fz 23 [] [22],.shd 24,.fz 24 [] [22]] [] [] [(22,sc [vM aK x2,vM aD x3]),(23,none),(24,none)] []) (rk hC [] [3,36] [(3,vB true)] [(20,sc [vM aK x2,vM aD x3])] [] (qr eR))))
theorem qN(G:GS)(n:Nat){r:(List Arr)}(h:o0 n=some r):PQ G 232 [] (vM aK r):=by
 unfold o0 at h
 refine pq aN Tryz.func232 rfl fun w X hC=> ?_
 obtain rfl:=so h
 exact rq hC [] [0] [] [] [] (rq hC [.z (.int 0),.z (.int 0),.z (.int 0),.z (.int 0)] (fr 0 8) [(0,vM aK [(⟨[65],[6]⟩:Arr),(⟨[66],[4,5]⟩:Arr),(⟨[67],[3]⟩:Arr)])] [] [] (qr eR))
theorem aB9{r_a0}{depth}{r}(h:rW n r_a0 depth=some r):VQ G 295 [eL r_a0] [V.ref 0 0,vI depth] (V.agg (jI r.1)) [eL r.2]:=by
 unfold rW at h
 refine vq aN Tryz.func295 rfl fun w X β0 hC hg=> ?_
 refine rq hC [.z (.nat 20)] [4] [(4,V.ref 20 0)] [(20,sc [V.t T.nilS,V.t T.nilS])] [(20,true)] ?_
 obtain⟨x1,hx1,x2,hx2,h⟩:=cT h
 refine rq hC [.z (.int 0),oC [0] [] (bA G hx1),oC [] [21] (cM G hx2),.z (.nat 22)] [5,9,10,11,12] [(5,V.ref 22 0)] [(0,sR x1.2),(21,some (ar 3 1 1 rI x2.coefs)),(22,sc [ms 21 1 1 rI x2.coefs,vI x2.const])] [(0,true),(21,true),(22,true)] ?_
 obtain⟨x3,hx3,x4,hx4,h⟩:=cT h
 refine rq hC [.z (.int 0),oC [0] [] (bA G hx3),oC [] [23] (cM G hx4),.z (.nat 24)] [6,13,14,15,16] [(6,V.ref 24 0)] [(0,sR x3.2),(23,some (ar 3 1 1 rI x4.coefs)),(24,sc [ms 23 1 1 rI x4.coefs,vI x4.const])] [(0,true),(23,true),(24,true)] (vj h (fun x_=>aY [(0,V.ref 0 0),(4,V.ref 20 0),(5,V.ref 22 0),(6,V.ref 24 0)] [(0,E.cells [vM rY x_.1,vI x_.2.1]),(20,E.cells [V.t T.nilS,V.t T.nilS]),(22,E.cells [vM rI x_.2.2.1,vI x_.2.2.2.1]),(24,E.cells [vM rI x_.2.2.2.2.1,vI x_.2.2.2.2.2])] [0,20,21,22,23,24]) (fun j5 h=> ?_) ?_)
 ·
  refine vj h (fun x_=>aY [(0,V.ref 0 0),(1,vI depth),(4,V.ref 20 0),(5,V.ref 22 0),(6,V.ref 24 0),(23,vB x_.2.2)] [(0,E.cells [vM rY x_.1,vI x_.2.1]),(20,E.cells [V.t T.nilS,V.t T.nilS]),(21,ar 3 1 1 rI x2.coefs),(22,E.cells [ms 21 1 1 rI x2.coefs,vI x2.const]),(23,ar 3 1 1 rI x4.coefs),(24,E.cells [ms 23 1 1 rI x4.coefs,vI x4.const])] [0,20,21,22,23,24]) (fun j6 h=> ?_) ?_
  ·
   refine aR h (fun c1 h=> ?_) (fun c1 h=> ?_)
   ·exact rk hC (rF 4 c1) (fr 17 7) [(23,vB false)] [] [] (lE h)
   ·obtain⟨x7,hx7,h⟩:=bd h
    exact rk hC [oT c1,oT c1,oC [0] [] (bL G hx7),oT c1,oT c1] (fr 17 7) [(23,vB (decide (x7.1=0)))] [(0,sR x7.2)] [(0,true)] (lE h)
  ·rintro⟨x8,x9,x10⟩ h
   refine aT h (fun c2 h=> ?_) (fun c2 h=> ?_)
   ·obtain⟨x11,hx11,h⟩:=bd h
    refine rq hC [oC [0] [] (bL G hx11)] [7,24,25,26] [(7,vI x11.1)] [(0,sR x11.2)] [(0,true)] ?_
    obtain⟨x12,hx12,h⟩:=bd h
    refine rq hC [oC [0] [] (bL G hx12)] [27,28,29] [(29,vB (decide (x12.1=0)))] [(0,sR x12.2)] [(0,true)] (aT h (fun c3 h=> ?_) (fun c3 h=> ?_))
    ·obtain⟨x13,hx13,h⟩:=bd h
     exact rk hC [oC [] [25] (mZ G hx13)] [30,31] [] [(25,some (ar 3 1 1 rI x13.coefs)),(22,sc [ms 25 1 1 rI x13.coefs,vI x13.const])] [(25,true)] ⟨(x12.2.b,x12.2.p,x13.coefs,x13.const,x4.coefs,x4.const),h,((lk hC [.fz 23 [] [24],.fz 25 [] [22]] [] [] [(24,some (E.cells (aJ x4))),(23,none),(22,some (E.cells (aJ x13))),(25,none)] []).trans (lS))⟩
    ·obtain⟨x14,hx14,x15,hx15,x16,hx16,h⟩:=kH h
     exact rk hC [oC [] [25] (mZ G hx14),oC [] [26] (cM G hx15),.z (.at 2),.z (.fz 25 [33] []),.z (.at 2),.z (.fz 26 [34] []),oC [] [27] (gD G hx16)] (fr 32 4) [] [(25,none),(26,none),(27,some (ar 3 1 1 rI x16.coefs)),(24,sc [ms 27 1 1 rI x16.coefs,vI x16.const])] [(25,true),(26,true),(27,true)] ⟨(x12.2.b,x12.2.p,x2.coefs,x2.const,x16.coefs,x16.const),h,((lk hC [.fz 21 [] [22],.fz 27 [] [24]] [] [] [(22,some (E.cells (aJ x2))),(21,none),(24,some (E.cells (aJ x16))),(27,none)] []).trans (lS))⟩
   ·exact qk ⟨(x8,x9,x2.coefs,x2.const,x4.coefs,x4.const),h,((lk hC [.fz 21 [] [22],.fz 23 [] [24]] [] [] [(22,some (E.cells (aJ x2))),(21,none),(24,some (E.cells (aJ x4))),(23,none)] []).trans (lS))⟩
 ·rintro⟨x17,x18,x19,x20,x21,x22⟩ h
  refine rq hC [.z (.int 1),.z (.nat 25),.z (.int 1),.z (.nat 26),.z (.nat 27)] [8,36,37,38,39,40] [(8,V.ref 27 0)] [(25,some (ar 63 1 2 aA [(⟨x19,x20⟩:Affine)])),(26,some (ar 63 1 2 aA [(⟨x21,x22⟩:Affine)])),(27,sc [ms 25 1 2 aA [(⟨x19,x20⟩:Affine)],ms 26 1 2 aA [(⟨x21,x22⟩:Affine)]])] [(25,true),(26,true),(27,true)] ?_
  obtain⟨j23,hj23,h⟩:=J7 h
  refine m5 (γ:=Nat×Nat) (j:=j23) (r:=r) (fun x_ g_=>aY [(4,V.ref 20 0),(8,V.ref 27 0)] [(0,E.cells [vM rY x_.1,vI x_.2.1]),(20,E.cells [V.t T.nilS,V.t T.nilS]),(22,E.cells [vM rI x19,vI x20]),(24,E.cells [vM rI x21,vI x22]),(25,ar 63 g_.1 2 aA x_.2.2.1),(26,ar 63 g_.2 2 aA x_.2.2.2),(27,E.cells [ms 25 g_.1 2 aA x_.2.2.1,ms 26 g_.2 2 aA x_.2.2.2])] [0,20,21,22,23,24,25,26,27]) ?_ ?_
  ·
   obtain⟨x24,hx24,h⟩:=bd h
   refine rq hC [oC [0] [] (bL G hx24)] [41,42] [(42,vI x24.1)] [(0,sR x24.2)] [(0,true)] (qb (rq hC [] [43,44] [(43,vB (decide (x24.1=0)))] [] [] (aT h (fun c4 h=> ?_) (fun c4 h=> ?_))))
   ·obtain⟨x25,hx25,x26,hx26,x27,hx27,h⟩:=kH h
    exact dk hC bD [.z (.int 0),oC [0] [] (bA G hx25),oC [] [28] (cM G hx26),.z (.at 4),.z (.fz 28 [50] []),.z (.int 0),oA (aO aA hx27),oQ (bO (r:=aA) 2 aS [(⟨x21,x22⟩:Affine)]),oQ (bO (r:=aA) 2 aS [x26])] (fr 45 9) [] [(0,sR x25.2),(28,none),(26,some (ar 63 2 2 aA x27)),(27,sc [ms 25 1 2 aA [(⟨x19,x20⟩:Affine)],ms 26 2 2 aA x27])] [(0,true),(28,true)] ⟨(x25.2.b,x25.2.p,[(⟨x19,x20⟩:Affine)],x27),(1,2),h,lS⟩
   ·refine rq hC [] [54,55] [(54,vB (decide (x24.1=1)))] [] [] (aT h (fun c5 h=> ?_) (fun c5 h=> ?_))
    ·obtain⟨x28,hx28,x29,hx29,x30,hx30,h⟩:=kH h
     exact dk hC bD [.z (.int 0),oC [0] [] (bA G hx28),oC [] [28] (cM G hx29),.z (.at 4),.z (.fz 28 [61] []),.z (.int 0),oA (aO aA hx30),oQ (bO (r:=aA) 2 aS [(⟨x19,x20⟩:Affine)]),oQ (bO (r:=aA) 2 aS [x29])] (fr 56 9) [] [(0,sR x28.2),(28,none),(25,some (ar 63 2 2 aA x30)),(27,sc [ms 25 2 2 aA x30,ms 26 1 2 aA [(⟨x21,x22⟩:Affine)]])] [(0,true),(28,true)] ⟨(x28.2.b,x28.2.p,x30,[(⟨x21,x22⟩:Affine)]),(2,1),h,lS⟩
    ·exact qk ⟨(x24.2.b,x24.2.p,[(⟨x19,x20⟩:Affine)],[(⟨x21,x22⟩:Affine)]),(1,1),h,lS⟩
  ·rintro⟨x31,x32,x33,x34⟩ ⟨g35,g36⟩ h
   subst hj23
   obtain rfl:=so h
   exact rq hC [.z (.at 2),.z (.fz 25 [] [27]),.z (.at 2),.z (.fz 26 [] [27])] [65] [] [(27,sc [vM aA x33,vM aA x34]),(25,none),(26,none),(20,sc [vM aA x33,vM aA x34])] [] (qr eW)
theorem aB8{r_a0}{r}(h:rV n r_a0=some r):VQ G 270 [eL r_a0] [V.ref 0 0] (ms 1 1 2 aC r.1) [eL r.2,ar 56 1 2 aC r.1]:=by
 unfold rV at h
 refine vq aN Tryz.func270 rfl fun w X β0 hC hg=> ?_
 refine rq hC [] [2] [] [] [] (rq hC [.z (.nat 20)] [3,5] [(3,ms 20 1 2 aC [])] [(20,some (ar 56 1 2 aC []))] [(20,true)] (qs ?_))
 obtain⟨x1,hx1,h⟩:=bd h
 refine rq hC [.z (.int 0),oC [0] [] (bA G hx1)] [4,6,7,8] [(4,vI x1.1)] [(0,sR x1.2)] [(0,true)] (qb (bC (γ:=Nat) h (fun x_ g_=>aY [(0,V.ref 0 0),(3,ms 20 g_ 2 aC x_.2.2.1),(4,vI x_.2.2.2)] [(0,E.cells [vM rY x_.1,vI x_.2.1]),(20,ar 56 g_ 2 aC x_.2.2.1)] [0,20]) 1 (lS) ?_))
 rintro again7 ⟨x2,x3,x4,x5⟩ g6 h
 refine qs (rq hC [] [9,10] [(10,vB (decide ((0:Int)<x5)))] [] [] (aT h (fun c1 h=> ?_) (fun c1 h=> ?_)))
 ·refine qk (qs (qb ?_))
  obtain⟨x8,hx8,x9,hx9,h⟩:=cT h
  exact rk hC [oN aC x4,oC [0] [] (aB9 G hx8),.z (.int 0),oA (aO aC hx9),oQ (bO (r:=aC) 2 bU x4),oQ (bO (r:=aC) 2 bU [x8.1])] [3,13,14,15,16,17,18,19] [(3,ms 20 (g6+1) 2 aC x9)] [(0,sR x8.2),(20,some (ar 56 (g6+1) 2 aC x9))] [(0,true)] (rk hC [] [4,11,12] [(4,vI (wr (x5-1)))] [] [] ⟨(x8.2.b,x8.2.p,x9,wr (x5-1)),(g6+1),h,lS⟩)
 ·obtain rfl:=so h
  exact cQ (rq hC [] [2,20] [(2,ms 20 g6 2 aC x4)] [] [] (qw (lk hC [.ren 2 20 1] [2] [(2,ms 1 1 2 aC x4)] [(1,some (ar 56 1 2 aC x4)),(20,none)] [(1,true)]) (qr eW)))
theorem H0{r_a0}{depth}{r}(h:nE n r_a0 depth=some r):VQ G 296 [eL r_a0] [V.ref 0 0,vI depth] (V.agg (b8 r.1)) [eL r.2]:=by
 unfold nE at h
 refine vq aN Tryz.func296 rfl fun w X β0 hC hg=> ?_
 refine rq hC [.z (.nat 20)] [4] [(4,V.ref 20 0)] [(20,sc [vS [],V.t T.nilS])] [(20,true)] ?_
 obtain⟨x1,hx1,h⟩:=bd h
 refine rq hC [.z (.int 0),oC [0] [] (mM G hx1),.z (.nat 21)] [5,10,11,12,13] [(5,V.ref 21 0)] [(0,sR x1.2),(21,sc [vS x1.1,V.t T.nilS])] [(0,true),(21,true)] (rq hC [] [6] [(6,vI 1)] [] [] (vj h (fun x_=>aY [(0,V.ref 0 0),(1,vI depth),(4,V.ref 20 0),(5,V.ref 21 0),(6,vI x_)] [(0,eL x1.2),(20,E.cells [vS [],V.t T.nilS]),(21,E.cells [vS x1.1,V.t T.nilS])] [0,20,21]) (fun j2 h=> ?_) (fun x3 h=> ?_)))
 ·
  refine rq hC [] [14,15,16] [(16,vB (decide (x1.1=[66])))] [] [] (aT h (fun c1 h=> ?_) (fun c1 h=> ?_))
  ·exact rk hC [] [6] [(6,vI 2)] [] [] (lE h)
  ·exact qk (lE h)
 ·refine qs (rq hC [] [7] [(7,vI 0)] [] [] (qb (qw (lk hC [.growc 21 1 22 63] [] [] [(22,some (ar 63 1 2 aA [])),(21,sc [vS x1.1,ms 22 1 2 aA []])] [(22,true)]) (bC (γ:=Nat) h (fun x_ g_=>aY [(0,V.ref 0 0),(1,vI depth),(4,V.ref 20 0),(5,V.ref 21 0),(6,vI x3),(7,vI x_.2.2.2)] [(0,E.cells [vM rY x_.1,vI x_.2.1]),(20,E.cells [vS [],V.t T.nilS]),(21,E.cells [vS x1.1,ms 22 g_ 2 aA x_.2.2.1]),(22,ar 63 g_ 2 aA x_.2.2.1)] [0,20,21,22]) 1 (lS) ?_))))
  rintro again9 ⟨x4,x5,x6,x7⟩ g8 h
  refine qs (rq hC [] [17,18,19] [(19,vB (decide (x7<x3)))] [] [] (aT h (fun c2 h=> ?_) (fun c2 h=> ?_)))
  ·refine qk (qs (qb ?_))
   obtain⟨x10,hx10,x11,hx11,h⟩:=cT h
   refine rq hC [.z (.int 0),oC [0] [] (bA G hx10),oC [] [23] (cM G hx11),.z (.nat 24)] [8,22,23,24,25] [(8,V.ref 24 0)] [(0,sR x10.2),(23,some (ar 3 1 1 rI x11.coefs)),(24,sc [ms 23 1 1 rI x11.coefs,vI x11.const])] [(0,true),(23,true),(24,true)] (vj h (fun x_=>aY [(0,V.ref 0 0),(1,vI depth),(4,V.ref 20 0),(5,V.ref 21 0),(6,vI x3),(7,vI x7),(8,V.ref 24 0)] [(0,E.cells [vM rY x_.1,vI x_.2.1]),(20,E.cells [vS [],V.t T.nilS]),(21,E.cells [vS x1.1,ms 22 g8 2 aA x6]),(22,ar 63 g8 2 aA x6),(24,E.cells [vM rI x_.2.2.1,vI x_.2.2.2])] [0,20,21,22,23,24]) (fun j12 h=> ?_) ?_)
   ·
    refine vj h (fun x_=>aY [(0,V.ref 0 0),(1,vI depth),(4,V.ref 20 0),(5,V.ref 21 0),(6,vI x3),(7,vI x7),(8,V.ref 24 0),(32,vB x_.2.2)] [(0,E.cells [vM rY x_.1,vI x_.2.1]),(20,E.cells [vS [],V.t T.nilS]),(21,E.cells [vS x1.1,ms 22 g8 2 aA x6]),(22,ar 63 g8 2 aA x6),(23,ar 3 1 1 rI x11.coefs),(24,E.cells [ms 23 1 1 rI x11.coefs,vI x11.const])] [0,20,21,22,23,24]) (fun j13 h=> ?_) ?_
    ·
     refine aR h (fun c3 h=> ?_) (fun c3 h=> ?_)
     ·exact rk hC (rF 4 c3) (fr 26 7) [(32,vB false)] [] [] (lE h)
     ·obtain⟨x14,hx14,h⟩:=bd h
      exact rk hC [oT c3,oT c3,oC [0] [] (bL G hx14),oT c3,oT c3] (fr 26 7) [(32,vB (decide ((0:Int)<x14.1)))] [(0,sR x14.2)] [(0,true)] (lE h)
    ·rintro⟨x15,x16,x17⟩ h
     refine aT h (fun c4 h=> ?_) (fun c4 h=> ?_)
     ·obtain⟨x18,hx18,h⟩:=bd h
      refine rq hC [oC [0] [] (bL G hx18)] [9,33,34,35] [(9,vI x18.1)] [(0,sR x18.2)] [(0,true)] ?_
      obtain⟨x19,hx19,x20,hx20,x21,hx21,h⟩:=kH h
      obtain⟨x22,hx22,x23,hx23,h⟩:=cT h
      exact rk hC [oC [] [25] (mZ G hx19),.z (.int 0),oC [0] [] (bA G hx20),.z (.int 0),oC [0] [] (bA G hx21),oC [] [26] (cM G hx22),.z (.at 2),.z (.fz 25 [37] []),.z (.at 2),.z (.fz 26 [44] []),oC [] [27] (gD G hx23)] (fr 36 10) [] [(25,none),(0,sR x21.2),(26,none),(27,some (ar 3 1 1 rI x23.coefs)),(24,sc [ms 27 1 1 rI x23.coefs,vI x23.const])] [(25,true),(0,true),(0,true),(26,true),(27,true)] ⟨(x21.2.b,x21.2.p,x23.coefs,x23.const),h,((lk hC [.fz 27 [] [24]] [] [] [(24,some (E.cells (aJ x23))),(27,none)] []).trans (lS))⟩
     ·exact qk ⟨(x15,x16,x11.coefs,x11.const),h,((lk hC [.fz 23 [] [24]] [] [] [(24,some (E.cells (aJ x11))),(23,none)] []).trans (lS))⟩
   ·rintro⟨x24,x25,x26,x27⟩ h
    obtain⟨x28,hx28,h⟩:=bd h
    exact rk hC [.z (.int 0),oA (aO aA hx28),oQ (bO (r:=aA) 2 aS x6),oQ (bO (r:=aA) 2 aS [(⟨x26,x27⟩:Affine)])] (fr 46 6) [] [(22,some (ar 63 (g8+1) 2 aA x28)),(21,sc [vS x1.1,ms 22 (g8+1) 2 aA x28])] [] (rk hC [] [7,20,21] [(7,vI (wr (x7+1)))] [] [] ⟨(x24,x25,x28,wr (x7+1)),(g8+1),h,lS⟩)
  ·obtain rfl:=so h
   exact cQ (rq hC [.z (.at 2),.z (.fz 22 [] [21])] [52] [] [(21,sc [vS x1.1,vM aA x6]),(22,none),(20,sc [vS x1.1,vM aA x6])] [] (qr eW))
theorem aCc{r_a0}{depth}{r}(h:o7 n r_a0 depth=some r):VQ G 319 [eL r_a0] [V.ref 0 0,vI depth] (V.agg (aJ r.1)) [eL r.2]:=by
 unfold o7 at h
 refine vq aN Tryz.func319 rfl fun w X β0 hC hg=> ?_
 refine rq hC [.z (.nat 20)] [4] [(4,V.ref 20 0)] [(20,sc [V.t T.nilS,vI 0])] [(20,true)] ?_
 obtain⟨x1,hx1,x2,hx2,h⟩:=cT h
 refine rq hC [.z (.int 0),oC [0] [] (bA G hx1),oC [] [21] (cM G hx2),.z (.nat 22)] [5,7,8,9,10] [(5,V.ref 22 0)] [(0,sR x1.2),(21,some (ar 3 1 1 rI x2.coefs)),(22,sc [ms 21 1 1 rI x2.coefs,vI x2.const])] [(0,true),(21,true),(22,true)] (qs (rq hC [] [6] [(6,vI 0)] [] [] (qb (bC (γ:=Nat) h (fun x_ g_=>aY [(0,V.ref 0 0),(1,vI depth),(4,V.ref 20 0),(5,V.ref 22 0),(6,vI x_.2.2.2)] [(0,E.cells [vM rY x_.1,vI x_.2.1]),(20,E.cells [V.t T.nilS,vI 0]),(21,ar 3 g_ 1 rI x_.2.2.1),(22,E.cells [ms 21 g_ 1 rI x_.2.2.1,vI x2.const])] [0,20,21,22]) 1 (lS) ?_))))
 rintro again8 ⟨x3,x4,x5,x6⟩ g7 h
 refine qs (rq hC [] [11,12,13] [(13,vB (decide (x6<depth)))] [] [] (aT h (fun c1 h=> ?_) (fun c1 h=> ?_)))
 ·refine qk (qs (qb ?_))
  obtain⟨x9,hx9,x10,hx10,x11,hx11,h⟩:=kH h
  exact dk hC bD [.z (.int 0),oC [0] [] (bA G hx9),oQ (kS rI hx10),oX rI hx10,.z (.rows (List.map rI x11)),oQ (str rI hx11)] (fr 16 7) [] [(0,sR x9.2),(21,some (ar 3 g7 1 rI x11))] [(0,true)] (qw (xA hC [.lenc 22 0 (List.map rI x11).length] [] [] [(22,sc [ms 21 g7 1 rI x11,vI x2.const])] [] (a1 (iH rI hx11)) (by kernel_rfl)) (rk hC [] [6,14,15] [(6,vI (wr (x6+1)))] [] [] ⟨(x9.2.b,x9.2.p,x11,wr (x6+1)),g7,h,lS⟩))
 ·obtain rfl:=so h
  exact cQ (rq hC [.z (.at 2),.z (.fz 21 [] [22])] [23] [] [(22,sc [vM rI x5,vI x2.const]),(21,none),(20,sc [vM rI x5,vI x2.const])] [] (qr eW))
theorem aAu(G:GS): ∀(n:Nat) (r_a0:L16Rd) (depth:Int) (levels:Int) {r:Expr×L16Rd} (h:s_l3Value n r_a0 depth levels=some r),VQ G 297 [eL r_a0] [V.ref 0 0,vI depth,vI levels] (V.agg (cO r.1)) [eL r.2]:=by
 intro n
 induction n with
 |zero=>intro r_a0 depth levels r h;rw [s_l3Value.eq_def] at h;cases h
 |succ n ih=>
  intro r_a0 depth levels r h
  rw [s_l3Value.eq_def] at h;dsimp only at h
  refine vq aN Tryz.func297 rfl fun w X β0 hC hg=> ?_
  refine rq hC [.z (.nat 20)] [6] [(6,V.ref 20 0)] [(20,sc [vI 0,vI 0,V.t T.nilS,vI 0,vS [],V.t T.nilS,V.t T.nilS])] [(20,true)] (qs (vj h (fun x_=>aY [(0,V.ref 0 0),(1,vI depth),(2,vI levels),(6,V.ref 20 0),(15,vB x_.2.2)] [(0,E.cells [vM rY x_.1,vI x_.2.1]),(20,E.cells [vI 0,vI 0,V.t T.nilS,vI 0,vS [],V.t T.nilS,V.t T.nilS])] [0,20]) (fun j1 h=> ?_) ?_))
  ·
   refine aR h (fun c1 h=> ?_) (fun c1 h=> ?_)
   ·obtain⟨x2,hx2,h⟩:=bd h
    exact rk hC [oF c1,oF c1,oC [0] [] (bL G hx2),oF c1,oF c1] (fr 9 7) [(15,vB (decide (x2.1=0)))] [(0,sR x2.2)] [(0,true)] (lE h)
   ·exact rk hC (rT 4 c1) (fr 9 7) [(15,vB true)] [] [] (lE h)
  ·rintro⟨x3,x4,x5⟩ h
   refine aT h (fun c2 h=> ?_) (fun c2 h=> ?_)
   ·refine qs ?_
    obtain⟨x6,hx6,h⟩:=bd h
    refine rq hC [oC [0] [] (bL G hx6)] [16,17] [(17,vI x6.1)] [(0,sR x6.2)] [(0,true)] (qb (rq hC [] [18,19] [(18,vB (decide (x6.1=0)))] [] [] (aT h (fun c3 h=> ?_) (fun c3 h=> ?_))))
    ·obtain⟨x7,hx7,h⟩:=bd h
     obtain rfl:=so h
     exact rq hC [.z (.int 0),oC [0] [] (bA G hx7)] (fr 20 4) [] [(0,sR x7.2),(20,sc [vI 1,vI x7.1,V.t T.nilS,vI 0,vS [],V.t T.nilS,V.t T.nilS])] [(0,true)] (qr eW)
    ·refine rq hC [] [24,25] [(24,vB (decide (x6.1=1)))] [] [] (aT h (fun c4 h=> ?_) (fun c4 h=> ?_))
     ·obtain⟨x8,hx8,h⟩:=bd h
      obtain rfl:=so h
      exact rq hC [oC [0] [] (aCc G hx8)] (fr 26 4) [] [(0,sR x8.2),(20,sc [vI 2,vI 0,vM rI x8.1.coefs,vI x8.1.const,vS [],V.t T.nilS,V.t T.nilS])] [(0,true)] (qr eW)
     ·refine qk ?_
      obtain⟨x9,hx9,h⟩:=bd h
      obtain rfl:=so h
      exact rq hC [oC [0] [] (H0 G hx9)] (fr 30 4) [] [(0,sR x9.2),(20,sc [vI 3,vI 0,V.t T.nilS,vI 0,vS x9.1.array,vM aA x9.1.subs,V.t T.nilS])] [(0,true)] (qr eW)
   ·refine qk ?_
    obtain⟨x10,hx10,h⟩:=bd h
    refine rq hC [.z (.int 0),oC [0] [] (bA G hx10),.z (.nat 21)] [7,34,35,36,37] [(7,V.ref 21 0)] [(0,sR x10.2),(21,sc [vI x10.1,vI 0,V.t T.nilS,vI 0,vS [],V.t T.nilS,V.t T.nilS])] [(0,true),(21,true)] (qs (rq hC [] [8] [(8,vI 0)] [] [] (qb (qw (lk hC [.growc 21 6 22 84] [] [] [(22,some (ar 84 1 7 aH [])),(21,sc [vI x10.1,vI 0,V.t T.nilS,vI 0,vS [],V.t T.nilS,ms 22 1 7 aH []])] [(22,true)]) (bC (γ:=Nat) h (fun x_ g_=>aY [(0,V.ref 0 0),(1,vI depth),(2,vI levels),(6,V.ref 20 0),(7,V.ref 21 0),(8,vI x_.2.2.2)] [(0,E.cells [vM rY x_.1,vI x_.2.1]),(20,E.cells [vI 0,vI 0,V.t T.nilS,vI 0,vS [],V.t T.nilS,V.t T.nilS]),(21,E.cells [vI x10.1,vI 0,V.t T.nilS,vI 0,vS [],V.t T.nilS,ms 22 g_ 7 aH x_.2.2.1]),(22,ar 84 g_ 7 aH x_.2.2.1)] [0,20,21,22]) 1 (lS) ?_)))))
    rintro again16 ⟨x11,x12,x13,x14⟩ g15 h
    refine qs (rq hC [] [38,39] [(39,vB (decide (x14<2)))] [] [] (aT h (fun c5 h=> ?_) (fun c5 h=> ?_)))
    ·refine qk (qs (qb ?_))
     obtain⟨x17,hx17,x18,hx18,h⟩:=cT h
     exact dk hC bD [oC [0] [] (ih (⟨x11,x12⟩:L16Rd) depth (wr (levels-1)) hx17),.z (.int 2),.z (.rows (List.map aH [x17.1])),oQ (qM x17.1),oA (aO aH hx18),oQ (bO (r:=aH) 7 dJ x13),oQ (bO (r:=aH) 7 dJ [x17.1])] (fr 42 10) [] [(0,sR x17.2),(22,some (ar 84 (g15+1) 7 aH x18)),(21,sc [vI x10.1,vI 0,V.t T.nilS,vI 0,vS [],V.t T.nilS,ms 22 (g15+1) 7 aH x18])] [(0,true)] (rk hC [] [8,40,41] [(8,vI (wr (x14+1)))] [] [] ⟨(x17.2.b,x17.2.p,x18,wr (x14+1)),(g15+1),h,lS⟩)
    ·obtain rfl:=so h
     exact cQ (rq hC [.z (.at 2),.z (.fz 22 [] [21])] [52] [] [(21,sc [vI x10.1,vI 0,V.t T.nilS,vI 0,vS [],V.t T.nilS,vM aH x13]),(22,none),(20,sc [vI x10.1,vI 0,V.t T.nilS,vI 0,vS [],V.t T.nilS,vM aH x13])] [] (qr eW))
theorem aB5{r_a0}{depth}{r}(h:rR n r_a0 depth=some r):VQ G 271 [eL r_a0] [V.ref 0 0,vI depth] (V.agg (cV r.1)) [eL r.2]:=by
 unfold rR at h
 refine vq aN Tryz.func271 rfl fun w X β0 hC hg=> ?_
 refine rq hC [.z (.nat 20)] [4] [(4,V.ref 20 0)] [(20,sc [vS [],V.t T.nilS,vI 0,vI 0,V.t T.nilS,vI 0,vS [],V.t T.nilS,V.t T.nilS])] [(20,true)] ?_
 obtain⟨x1,hx1,x2,hx2,x3,hx3,h⟩:=kH h
 refine rq hC [oC [0] [] (H0 G hx1),.z (.int 0),oC [0] [] (bA G hx2),oC [0] [] (aAu G n x2.2 depth x2.1 hx3),.z (.nat 21)] (fr 5 11) [(5,V.ref 21 0)] [(0,sR x3.2),(21,sc [vS x1.1.array,vM aA x1.1.subs,vI x3.1.kind,vI x3.1.num,vM rI x3.1.index.coefs,vI x3.1.index.const,vS x3.1.read.array,vM aA x3.1.read.subs,vM aH x3.1.kids])] [(0,true),(0,true),(0,true),(21,true)] (qs ?_)
 obtain⟨x4,hx4,h⟩:=bd h
 refine rq hC [oV (oH G hx4)] [16,17,18] [(18,vB x4)] [] [] (aT h (fun c1 h=> ?_) (fun c1 h=> ?_))
 ·obtain rfl:=so h
  exact rq hC [] [19] [] [(20,sc [vS x1.1.array,vM aA x1.1.subs,vI x3.1.kind,vI x3.1.num,vM rI x3.1.index.coefs,vI x3.1.index.const,vS x3.1.read.array,vM aA x3.1.read.subs,vM aH x3.1.kids])] [] (qr eW)
 ·refine qk ?_
  obtain⟨x5,hx5,h⟩:=bd h
  obtain rfl:=so h
  exact rq hC [oC [] [22] (lC G n hx5),.z (.at 5),.z (.fz 22 [20] []),.z (.int 0)] (fr 20 5) [] [(22,none),(20,sc [vS [65],vM aA [x5],vI 1,vI 1,V.t T.nilS,vI 0,vS [],V.t T.nilS,V.t T.nilS])] [(22,true)] (qr eW)
theorem aAE{sizes}{r}(h:s5 n sizes=some r):VQ G 272 [] [vM rI sizes] (V.tup [ms 0 1 2 aC r.1,vB r.2]) [ar 56 1 2 aC r.1]:=by
 unfold s5 at h
 refine vq aN Tryz.func272 rfl fun w X β0 hC hg=> ?_
 refine rq hC [] [2,3] [] [] [] (rq hC [.z (.nat 20)] [4,6] [(4,ms 20 1 2 aC [])] [(20,some (ar 56 1 2 aC []))] [(20,true)] (qs (rq hC [oN rI sizes] [7,8,9] [(9,vB (decide ((4:Int)<(sizes.length:Int))))] [] [] (aT h (fun c1 h=> ?_) (fun c1 h=> ?_)))))
 ·obtain rfl:=so h
  exact rq hC [] [2,3,10] [(2,ms 20 1 2 aC []),(3,vB false)] [] [] (qw (lk hC [.ren 2 20 0] [2] [(2,ms 0 1 2 aC [])] [(0,some (ar 56 1 2 aC [])),(20,none)] [(0,true)]) (qr eW))
 ·refine qk (qs (rq hC [] [5] [(5,vI 0)] [] [] (qb (bC (γ:=Nat) h (fun x_ g_=>aY [(0,vM rI sizes),(4,ms 20 g_ 2 aC x_.1),(5,vI x_.2)] [(20,ar 56 g_ 2 aC x_.1)] [20]) 1 (lS) ?_))))
  rintro again4 ⟨x1,x2⟩ g3 h
  refine qs (rq hC [oN rI sizes] (fr 11 4) [(14,vB (decide (x2<(sizes.length:Int))))] [] [] (aT h (fun c2 h=> ?_) (fun c2 h=> ?_)))
  ·refine qk (qs (qb (qs (vj h (fun x_=>aY [(0,vM rI sizes),(4,ms 20 g3 2 aC x1),(5,vI x2),(28,vB x_)] [(20,ar 56 g3 2 aC x1)] [20]) (fun j5 h=> ?_) (fun x7 h=> ?_)))))
   ·
    obtain⟨x6,hx6,h⟩:=bd h
    refine aR h (fun c3 h=> ?_) (fun c3 h=> ?_)
    ·exact rk hC ([oR rI hx6]++rF 3 c3++[oR rI hx6]++rF 3 c3) (fr 17 12) [(28,vB (decide ((99:Int)<x6)))] [] [] (lE h)
    ·exact rk hC ([oR rI hx6]++rT 6 c3) (fr 17 12) [(28,vB true)] [] [] (lE h)
   ·refine aT h (fun c4 h=> ?_) (fun c4 h=> ?_)
    ·obtain rfl:=so h
     exact rq hC [.z (.nat 21)] [2,3,29] [(2,ms 21 1 2 aC []),(3,vB false)] [(21,some (ar 56 1 2 aC []))] [(21,true)] (qw (lk hC [.ren 2 21 0] [2] [(2,ms 0 1 2 aC [])] [(0,some (ar 56 1 2 aC [])),(21,none)] [(0,true)]) (qr eW))
    ·refine qk ?_
     obtain⟨x8,hx8,x9,hx9,x10,hx10,h⟩:=kH h
     obtain⟨x11,hx11,h⟩:=bd h
     exact dk hC bD [oC [] [21] (lC G n hx8),.z (.at 11),.z (.fz 21 [31] []),.z (.int 0),oR rI hx9,oC [] [22] (cM G hx10),.z (.at 5),.z (.fz 22 [37] []),.z (.int 0),.z (.int 0),oA (aO aC hx11),oQ (bO (r:=aC) 2 bU x1),oQ (bO (r:=aC) 2 bU [(⟨[x8],[x10]⟩:Loop)])] [4,30,31,32,33,34,35,36,37,38,39,40,41] [(4,ms 20 (g3+1) 2 aC x11)] [(21,none),(22,none),(20,some (ar 56 (g3+1) 2 aC x11))] [(21,true),(22,true)] (rk hC [] [5,15,16] [(5,vI (wr (x2+1)))] [] [] ⟨(x11,wr (x2+1)),(g3+1),h,lS⟩)
  ·obtain rfl:=so h
   exact cQ (rq hC [] [2,3,42] [(2,ms 20 g3 2 aC x1),(3,vB true)] [] [] (qw (lk hC [.ren 2 20 0] [2] [(2,ms 0 1 2 aC x1)] [(0,some (ar 56 1 2 aC x1)),(20,none)] [(0,true)]) (qr eW)))
theorem aB4{r_a0}{r}(h:rQ n r_a0=some r):VQ G 233 [eL r_a0] [V.ref 0 0] (V.agg (kF r.1)) [eL r.2]:=by
 unfold rQ at h
 refine vq aN Tryz.func233 rfl fun w X β0 hC hg=> ?_
 refine rq hC [.z (.nat 20)] [2] [(2,V.ref 20 0)] [(20,sc [V.t T.nilS,V.t T.nilS])] [(20,true)] (qs (rq hC [] [3] [(3,vI 0)] [] [] (qb (jA h (fun x_=>aY [(0,V.ref 0 0),(2,V.ref 20 0),(3,vI x_.2.2)] [(0,E.cells [vM rY x_.1,vI x_.2.1]),(20,E.cells [V.t T.nilS,V.t T.nilS])] [0,20]) lS ?_))))
 rintro again4 ⟨x1,x2,x3⟩ h
 refine qs (rq hC [] [16,17] [(17,vB (decide (x3<4)))] [] [] (aT h (fun c1 h=> ?_) (fun c1 h=> ?_)))
 ·refine qk (qs (qb ?_))
  obtain⟨x5,hx5,h⟩:=bd h
  refine rq hC [oC [0] [21] (aB8 G hx5),.z (.nat 22)] [4,20,21,22] [(4,V.ref 22 0)] [(21,some (ar 56 1 2 aC x5.1)),(0,sR x5.2),(22,sc [ms 21 1 2 aC x5.1,V.t T.nilS])] [(0,true),(21,true),(22,true)] (qs ?_)
  obtain⟨x6,hx6,h⟩:=bd h
  refine rq hC [.z (.int 0),oC [0] [] (bA G hx6)] [5,23,24,25] [(5,vI x6.1)] [(0,sR x6.2)] [(0,true)] (qb (qw (lk hC [.fz 21 [] [22]] [] [] [(22,sc [vM aC x5.1,V.t T.nilS]),(21,none)] []) (qw (lk hC [.growc 22 1 23 86] [] [] [(23,some (ar 86 1 9 aG [])),(22,sc [vM aC x5.1,ms 23 1 9 aG []])] [(23,true)]) (bC (γ:=Nat) h (fun x_ g_=>aY [(0,V.ref 0 0),(2,V.ref 20 0),(3,vI x3),(4,V.ref 22 0),(5,vI x_.2.2.2.2)] [(0,E.cells [vM rY x_.1,vI x_.2.1]),(20,E.cells [V.t T.nilS,V.t T.nilS]),(22,E.cells [vM aC x_.2.2.1,ms 23 g_ 9 aG x_.2.2.2.1]),(23,ar 86 g_ 9 aG x_.2.2.2.1)] [0,20,21,22,23]) 1 (lS) ?_))))
  rintro again13 ⟨x7,x8,x9,x10,x11⟩ g12 h
  refine qs (rq hC [] [26,27] [(27,vB (decide ((0:Int)<x11)))] [] [] (aT h (fun c2 h=> ?_) (fun c2 h=> ?_)))
  ·refine qk ?_
   obtain⟨j14,hj14,h⟩:=J7 h
   refine m5 (γ:=Nat) (j:=j14) (r:=r) (fun x_ g_=>aY [(0,V.ref 0 0),(2,V.ref 20 0),(3,vI x3),(4,V.ref 22 0),(5,vI x11)] [(0,E.cells [vM rY x_.1,vI x_.2.1]),(20,E.cells [V.t T.nilS,V.t T.nilS]),(22,E.cells [vM aC x9,ms 23 g_ 9 aG x_.2.2]),(23,ar 86 g_ 9 aG x_.2.2)] [0,20,21,22,23]) ?_ ?_
   ·
    refine qb (rq hC [] [6] [(6,vI 0)] [] [] (qb (jA h (fun x_=>aY [(0,V.ref 0 0),(2,V.ref 20 0),(3,vI x3),(4,V.ref 22 0),(5,vI x11),(6,vI x_.2.2)] [(0,E.cells [vM rY x_.1,vI x_.2.1]),(20,E.cells [V.t T.nilS,V.t T.nilS]),(22,E.cells [vM aC x9,ms 23 g12 9 aG x10]),(23,ar 86 g12 9 aG x10)] [0,20,21,22,23]) lS ?_)))
    rintro again18 ⟨x15,x16,x17⟩ h
    refine qs (rq hC [] [30,31] [(31,vB (decide (x17<5)))] [] [] (aT h (fun c3 h=> ?_) (fun c3 h=> ?_)))
    ·refine qk (qs (qb ?_))
     obtain⟨x19,hx19,h⟩:=bd h
     refine rq hC [oN aC x9,oC [0] [] (aB5 G hx19),.z (.nat 24)] [7,34,35,36,37,38] [(7,V.ref 24 0)] [(0,sR x19.2),(24,some (E.cells (cV x19.1)))] [(0,true),(24,true)] (qs ?_)
     obtain⟨x20,hx20,x21,hx21,h⟩:=cT h
     refine dk hC bD [oV (qN G n hx20),.z (.int 1),.z (.nat 25),.z (.at 7),.z (.fz 25 [44] []),oV (uG G hx21)] [8,9,39,40,41,42,43,44,45,46,47,48] [(9,vB x21.2)] [(25,none)] [(25,true)] (rq hC [] [49] [(49,vB x21.2)] [] [] (aT h (fun c4 h=> ?_) (fun c4 h=> ?_)))
     ·obtain⟨x22,hx22,h⟩:=bd h
      exact rq hC [.z (.int 0),oA (aO aG hx22),oQ (bO (r:=aG) 9 dI x10),oQ (bO (r:=aG) 9 dI [x19.1])] (fr 50 6) [] [(23,some (ar 86 (g12+1) 9 aG x22)),(22,sc [vM aC x9,ms 23 (g12+1) 9 aG x22])] [] (cQ ⟨(x19.2.b,x19.2.p,x22),(g12+1),h,lS⟩)
     ·exact qk (rk hC [] [6,32,33] [(6,vI (wr (x17+1)))] [] [] (lE h))
    ·exact cQ ⟨(x15,x16,x10),g12,h,lS⟩
   ·rintro⟨x23,x24,x25⟩ g26 h
    subst hj14
    exact rk hC [] [5,28,29] [(5,vI (wr (x11-1)))] [] [] ⟨(x23,x24,x9,x25,wr (x11-1)),g26,h,lS⟩
  ·refine cQ (qs ?_)
   obtain⟨x27,hx27,x28,hx28,h⟩:=cT h
   refine dk hC bD [oV (qN G n hx27),.z (.at 7),.z (.fz 23 [] [22]),oV (uG G hx28)] [10,11,56,57,58,59,60,61] [(10,vI x28.1),(11,vB x28.2)] [(22,sc [vM aC x9,vM aG x10]),(23,none)] [] (vj h (fun x_=>aY [(0,V.ref 0 0),(2,V.ref 20 0),(3,vI x3),(4,V.ref 22 0),(66,vB x_)] [(0,E.cells [vM rY x7,vI x8]),(20,E.cells [V.t T.nilS,V.t T.nilS]),(22,E.cells [vM aC x9,vM aG x10])] [0,20,21,22,23]) (fun j29 h=> ?_) (fun x30 h=> ?_))
   ·
    refine aR h (fun c5 h=> ?_) (fun c5 h=> ?_)
    ·exact rk hC (rF 3 c5) (fr 62 5) [(66,vB false)] [] [] (lE h)
    ·exact rk hC (rT 3 c5) (fr 62 5) [(66,vB (decide (x28.1≤40)))] [] [] (lE h)
   ·refine aT h (fun c6 h=> ?_) (fun c6 h=> ?_)
    ·obtain rfl:=so h
     exact rq hC [] [67] [] [(20,sc [vM aC x9,vM aG x10])] [] (qr eW)
    ·exact qk (rk hC [] [3,18,19] [(3,vI (wr (x3+1)))] [] [] (lE h))
 ·refine cQ ?_
  obtain⟨x31,hx31,h⟩:=bd h
  refine rq hC [oV (tQ G hx31),.z (.nat 21)] [12,13,68,69,70,71] [(12,V.ref 21 0)] [(21,some (E.cells (cV x31.1)))] [(21,true)] ?_
  obtain⟨x32,hx32,h⟩:=bd h
  obtain rfl:=so h
  exact rq hC [.z (.int 0),oC [] [22] (aAE G hx32)] [14,15,72,73,74,75,76] [(14,ms 22 1 2 aC x32.1)] [(22,some (ar 56 1 2 aC x32.1))] [(22,true)] (rq hC [.z (.int 1),.z (.nat 23)] (fr 77 4) [] [(23,some (ar 86 1 9 aG [x31.1])),(20,sc [ms 22 1 2 aC x32.1,ms 23 1 9 aG [x31.1]])] [(23,true)] (qw (lk hC [.fz 22 [14] [20]] [14] [(14,vM aC x32.1)] [(20,sc [vM aC x32.1,ms 23 1 9 aG [x31.1]]),(22,none)] []) (qw (lk hC [.fz 23 [] [20]] [] [] [(20,sc [vM aC x32.1,vM aG [x31.1]]),(23,none)] []) (qr eW))))
theorem aB3{r_a0}{r}(h:rP n r_a0=some r):VQ G 183 [eL r_a0] [V.ref 0 0] (V.agg (bJ r.1)) [eL r.2]:=by
 unfold rP at h
 refine vq aN Tryz.func183 rfl fun w X β0 hC hg=> ?_
 refine rq hC [.z (.nat 20)] [2] [(2,V.ref 20 0)] [(20,sc [V.t T.nilS,V.t T.nilS])] [(20,true)] ?_
 obtain⟨x1,hx1,h⟩:=bd h
 refine rq hC [oV (qN G n hx1),.z (.nat 21)] [3,5,6] [(3,V.ref 21 0)] [(21,sc [vM aK x1,V.t T.nilS])] [(21,true)] (qs ?_)
 obtain⟨x2,hx2,h⟩:=bd h
 refine rq hC [.z (.int 0),oC [0] [] (bA G hx2)] [4,7,8,9] [(4,vI x2.1)] [(0,sR x2.2)] [(0,true)] (qb (qw (lk hC [.growc 21 1 22 60] [] [] [(22,some (ar 60 1 2 aD [])),(21,sc [vM aK x1,ms 22 1 2 aD []])] [(22,true)]) (bC (γ:=Nat) h (fun x_ g_=>aY [(0,V.ref 0 0),(2,V.ref 20 0),(3,V.ref 21 0),(4,vI x_.2.2.2)] [(0,E.cells [vM rY x_.1,vI x_.2.1]),(20,E.cells [V.t T.nilS,V.t T.nilS]),(21,E.cells [vM aK x1,ms 22 g_ 2 aD x_.2.2.1]),(22,ar 60 g_ 2 aD x_.2.2.1)] [0,20,21,22]) 1 (lS) ?_)))
 rintro again8 ⟨x3,x4,x5,x6⟩ g7 h
 refine qs (rq hC [] [10,11] [(11,vB (decide ((0:Int)<x6)))] [] [] (aT h (fun c1 h=> ?_) (fun c1 h=> ?_)))
 ·refine qk (qs (qb ?_))
  obtain⟨x9,hx9,x10,hx10,h⟩:=cT h
  exact dk hC bD [oC [0] [] (aB4 G hx9),.z (.int 0),oA (aO aD hx10),oQ (bO (r:=aD) 2 bT x5),oQ (bO (r:=aD) 2 bT [x9.1])] (fr 14 7) [] [(0,sR x9.2),(22,some (ar 60 (g7+1) 2 aD x10)),(21,sc [vM aK x1,ms 22 (g7+1) 2 aD x10])] [(0,true)] (rk hC [] [4,12,13] [(4,vI (wr (x6-1)))] [] [] ⟨(x9.2.b,x9.2.p,x10,wr (x6-1)),(g7+1),h,lS⟩)
 ·refine cQ (qs ?_)
  obtain⟨x11,hx11,h⟩:=bd h
  refine rq hC [.z (.at 2),.z (.fz 22 [] [21]),oV (cN G hx11)] [21,22] [(22,vB x11)] [(21,sc [vM aK x1,vM aD x5]),(22,none)] [] (aT h (fun c2 h=> ?_) (fun c2 h=> ?_))
  ·obtain rfl:=so h
   exact rq hC [] [23] [] [(20,sc [vM aK x1,vM aD x5])] [] (qr eW)
  ·refine qk (qs ?_)
   obtain⟨x12,hx12,x13,hx13,h⟩:=cT h
   obtain rfl:=so h
   exact dk hC bD [oV (qN G n hx12),oA (u4 aD hx13),oQ (bO (r:=aD) 2 bT x5)] (fr 24 5) [] [(20,sc [vM aK x12,vM aD x13])] [] (qr eW)
theorem aBY{r_a0}{r}(h:rJ n r_a0=some r):VQ G 119 [eL r_a0] [V.ref 0 0] (V.agg (bJ r.1)) [eL r.2]:=by
 unfold rJ at h
 refine vq aN Tryz.func119 rfl fun w X β0 hC hg=> ?_
 refine rq hC [.z (.nat 20)] [2] [(2,V.ref 20 0)] [(20,sc [V.t T.nilS,V.t T.nilS])] [(20,true)] ?_
 obtain⟨x1,hx1,h⟩:=bd h
 refine rq hC [.z (.int 0),oC [0] [] (mM G hx1)] [3,6,7,8] [(3,vS x1.1)] [(0,sR x1.2)] [(0,true)] ?_
 obtain⟨x2,hx2,x3,hx3,h⟩:=cT h
 refine rq hC [oS hx2,oV (xO G hx3),.z (.nat 21)] [4,5,9,10,11,12,13,14] [(4,V.ref 21 0),(5,vB x3.2)] [(21,some (E.cells (bJ x3.1)))] [(21,true)] (qs (vj h (fun x_=>aY [(0,V.ref 0 0),(2,V.ref 20 0),(4,V.ref 21 0),(20,vB x_.2.2)] [(0,E.cells [vM rY x_.1,vI x_.2.1]),(20,E.cells [V.t T.nilS,V.t T.nilS]),(21,E.cells (bJ x3.1))] [0,20,21]) (fun j4 h=> ?_) ?_))
 ·
  refine aR h (fun c1 h=> ?_) (fun c1 h=> ?_)
  ·exact rk hC (rF 4 c1) (fr 15 6) [(20,vB false)] [] [] (lE h)
  ·obtain⟨x5,hx5,h⟩:=bd h
   exact rk hC [oT c1,oT c1,oC [0] [] (bL G hx5),oT c1,oT c1] (fr 15 6) [(20,vB (decide ((0:Int)<x5.1)))] [(0,sR x5.2)] [(0,true)] (lE h)
 ·rintro⟨x6,x7,x8⟩ h
  refine aT h (fun c2 h=> ?_) (fun c2 h=> ?_)
  ·obtain rfl:=so h
   exact rq hC [] [21] [] [(20,some (E.cells (bJ x3.1)))] [] (qr eW)
  ·refine qk ?_
   obtain⟨x9,hx9,h⟩:=bd h
   obtain rfl:=so h
   exact rq hC [oC [0] [] (aB3 G hx9)] [22,23] [] [(0,sR x9.2),(20,some (E.cells (bJ x9.1)))] [(0,true)] (qr eW)
theorem aB0{r_a0}{r}(h:rM n r_a0=some r):VQ G 46 [eL r_a0] [V.ref 0 0] (V.tup [V.agg (bJ r.1),vI r.2.1,vI r.2.2.1,vI r.2.2.2.1]) [eL r.2.2.2.2]:=by
 unfold rM at h
 refine vq aN Tryz.func46 rfl fun w X β0 hC hg=> ?_
 refine rq hC [.z (.nat 20)] (fr 2 4) [(2,V.ref 20 0)] [(20,sc [V.t T.nilS,V.t T.nilS])] [(20,true)] ?_
 obtain⟨x1,hx1,x2,hx2,h⟩:=cT h
 refine rq hC [oC [0] [] (aBY G hx1),oC [0] [] (U8 G hx2),.z (.nat 21)] [6,8,9,10,11] [(6,V.ref 21 0)] [(0,sR x2.2),(21,some (E.cells (bJ x2.1)))] [(0,true),(0,true),(21,true)] ?_
 obtain⟨x3,hx3,h⟩:=bd h
 refine rq hC [.z (.int 0),oC [0] [] (bA G hx3)] [7,12,13,14] [(7,vI x3.1)] [(0,sR x3.2)] [(0,true)] (qs ?_)
 obtain⟨x4,hx4,x5,hx5,h⟩:=cT h
 obtain rfl:=so h
 exact dk hC bD [.z (.int 0),oC [0] [] (bA G hx4),.z (.int 0),oC [0] [] (bA G hx5)] [3,4,5,15,16,17,18,19,20,21,22] [(3,vI x3.1),(4,vI x4.1),(5,vI x5.1)] [(0,sR x5.2),(20,some (E.cells (bJ x2.1)))] [(0,true),(0,true)] (qr eW)
theorem aAD{code}{r}(h:mV n code=some r):VQ G 47 [] [vM rY code] (V.ref 0 0) [eL r]:=by
 unfold mV at h
 refine vq aN Tryz.func47 rfl fun w X β0 hC hg=> ?_
 refine rq hC [] [2] [] [] [] (vj h (fun x_=>aY [(0,vM rY x_)] [] []) (fun j1 h=> ?_) (fun x3 h=> ?_))
 ·
  refine rq hC [oN rY code] [3,4,5] [(5,vB (decide ((2000:Int)<(code.length:Int))))] [] [] (aT h (fun c1 h=> ?_) (fun c1 h=> ?_))
  ·obtain⟨x2,hx2,h⟩:=bd h
   exact rk hC [oA (u4 rY hx2),oQ (bO (r:=rY) 1 (fun _=>rfl) code)] [0,6,7] [(0,vM rY x2)] [] [] (lE h)
  ·exact qk (lE h)
 ·obtain rfl:=so h
  exact rq hC [.z (.nat 0)] [2,8,9,10] [(2,V.ref 0 0)] [(0,sc [vM rY x3,vI 0])] [(0,true)] (qr eW)
theorem wE{code}{r}(h:iS n code=some r):PQ G 15 [vM rY code] (V.tup [V.agg (bJ r.1),vI r.2.1,vI r.2.2.1,vI r.2.2.2]):=by
 unfold iS at h
 refine pq aN Tryz.func15 rfl fun w X hC=> ?_
 refine rq hC [.z (.nat 20)] (fr 2 4) [(2,V.ref 20 0)] [(20,sc [V.t T.nilS,V.t T.nilS])] [(20,true)] ?_
 obtain⟨x1,hx1,x2,hx2,h⟩:=cT h
 obtain rfl:=so h
 exact rq hC [oC [] [21] (aAD G hx1),oC [21] [] (aB0 G hx2)] (fr 3 10) [(3,vI x2.2.1),(4,vI x2.2.2.1),(5,vI x2.2.2.2.1)] [(21,sR x2.2.2.2.2),(20,some (E.cells (bJ x2.1)))] [(21,true),(21,true)] (qr eR)
theorem G5(G:GS)(n:Nat)(code:List UInt8)(more:List UInt8){r:Bool}(h:mB n code more=some r):PQ G 3 [vM rY code,vM rY more] (vB r):=by
 unfold mB at h
 refine pq aN Tryz.func3 rfl fun w X hC=> ?_
 refine rq hC [] [4] [] [] [] (qs (vj h (fun x_=>aY [(0,vM rY code),(1,vM rY more),(25,vB x_)] [] []) (fun j1 h=> ?_) (fun x2 h=> ?_)))
 ·
  refine aR h (fun c1 h=> ?_) (fun c1 h=> ?_)
  ·exact rk hC [oN rY code,oF c1,oF c1,oN rY more,oF c1,oF c1] (fr 18 8) [(25,vB (decide ((1048576:Int)<(more.length:Int))))] [] [] (lE h)
  ·exact rk hC ([oN rY code]++rT 4 c1) (fr 18 8) [(25,vB true)] [] [] (lE h)
 ·refine aT h (fun c2 h=> ?_) (fun c2 h=> ?_)
  ·obtain rfl:=so h
   exact rq hC [] [4] [(4,vB true)] [] [] (qr eR)
  ·refine qk ?_
   obtain⟨x3,hx3,h⟩:=bd h
   refine rq hC [oV (wE G hx3),.z (.nat 20)] [5,6,7,8,26,27,28,29,30,31,32] [(5,V.ref 20 0),(6,vI x3.2.1),(7,vI x3.2.2.1),(8,vI x3.2.2.2)] [(20,some (E.cells (bJ x3.1)))] [(20,true)] ?_
   obtain⟨x4,hx4,h⟩:=bd h
   refine rq hC [oV (oK G hx4),.z (.nat 21)] [9,10,33,34,35,36,37,38,39,40] [(9,V.ref 21 0),(10,vB x4.2)] [(21,some (E.cells (bJ x4.1)))] [(21,true)] ?_
   obtain⟨x5,hx5,h⟩:=bd h
   refine rq hC [oV (K5 G hx5),.z (.nat 22)] [11,12,41,42,43,44,45,46,47,48] [(11,V.ref 22 0),(12,vB x5.2)] [(22,some (E.cells (bJ x5.1)))] [(22,true)] (qs (vj h (fun x_=>aY [(1,vM rY more),(5,V.ref 20 0),(6,vI x3.2.1),(7,vI x3.2.2.1),(8,vI x3.2.2.2),(9,V.ref 21 0),(10,vB x4.2),(11,V.ref 22 0),(12,vB x5.2),(61,vB x_)] [(20,E.cells (bJ x3.1)),(21,E.cells (bJ x4.1)),(22,E.cells (bJ x5.1))] [20,21,22]) (fun j6 h=> ?_) (fun x8 h=> ?_)))
   ·
    refine aR h (fun c3 h=> ?_) (fun c3 h=> ?_)
    ·obtain⟨x7,hx7,h⟩:=bd h
     refine aR h (fun c4 h=> ?_) (fun c4 h=> ?_)
     ·exact rk hC (rF 3 c3++[oV (iU G hx7),oF c3,oF c3]++rF 3 c4) (fr 49 13) [(61,vB (!x4.2))] [] [] (lE h)
     ·exact rk hC (rF 3 c3++[oV (iU G hx7),oF c3,oF c3]++rT 3 c4) (fr 49 13) [(61,vB true)] [] [] (lE h)
    ·exact rk hC (rT 5 c3++[eT,eT,eT]) (fr 49 13) [(61,vB true)] [] [] (lE h)
   ·refine aT h (fun c5 h=> ?_) (fun c5 h=> ?_)
    ·refine vj h (fun x_=>aY [(4,vB x_)] [(20,E.cells (bJ x3.1)),(21,E.cells (bJ x4.1)),(22,E.cells (bJ x5.1))] [20,21,22]) (fun j9 h=> ?_) (fun x11 h=> ?_)
     ·
      refine aR h (fun c6 h=> ?_) (fun c6 h=> ?_)
      ·exact rk hC (rF 4 c6) [4,62,63,64,65,66,67,68,69] [(4,vB false)] [] [] (lE h)
      ·obtain⟨x10,hx10,h⟩:=bd h
       exact rk hC (rT 3 c6++[oV (iU G hx10),oT c6]) [4,62,63,64,65,66,67,68,69] [(4,vB x10)] [] [] (lE h)
     ·obtain rfl:=so h
      exact qr eR
    ·refine qk (rq hC [oN rY more,oQ (show(3:Int)≠0 by decide)] [13,70,71,72,73] [(13,vI (wr ((Int.tmod (more.length:Int) 3)-1)))] [] [] ?_)
     obtain⟨x12,hx12,h⟩:=bd h
     refine rq hC [oV (oK G hx12),.z (.nat 23)] [14,15,74,75,76,77,78,79,80,81] [(14,V.ref 23 0),(15,vB x12.2)] [(23,some (E.cells (bJ x12.1)))] [(23,true)] ?_
     obtain⟨x13,hx13,h⟩:=bd h
     refine rq hC [oV (oK G hx13),.z (.nat 24)] [16,17,82,83,84,85,86,87,88,89,90,91] [(16,V.ref 24 0),(17,vB x13.2)] [(24,some (E.cells (bJ x13.1)))] [(24,true)] (vj h (fun x_=>aY [(4,vB x_)] [(20,E.cells (bJ x3.1)),(21,E.cells (bJ x4.1)),(22,E.cells (bJ x5.1)),(23,E.cells (bJ x12.1)),(24,E.cells (bJ x13.1))] [20,21,22,23,24]) (fun j14 h=> ?_) (fun x16 h=> ?_))
     ·
      refine aR h (fun c7 h=> ?_) (fun c7 h=> ?_)
      ·refine aR h (fun c8 h=> ?_) (fun c8 h=> ?_)
       ·obtain⟨x15,hx15,h⟩:=bd h
        exact rk hC (rF 3 c7++rF 3 c8++[oV (iU G hx15),oF c8]) [4,92,93,94,95,96,97,98,99,100,101,102] [(4,vB x15)] [] [] (lE h)
       ·exact rk hC (rF 3 c7++rT 4 c8) [4,92,93,94,95,96,97,98,99,100,101,102] [(4,vB true)] [] [] (lE h)
      ·exact rk hC (rT 3 c7++sT 4) [4,92,93,94,95,96,97,98,99,100,101,102] [(4,vB true)] [] [] (lE h)
     ·obtain rfl:=so h
      exact qr eR
end Go.Lift
