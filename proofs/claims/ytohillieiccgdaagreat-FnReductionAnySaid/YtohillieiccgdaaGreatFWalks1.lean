/- The walks: the code computes what the plain functions say. -/
import Derived.Test.YtohillieiccgdaaGreatFModels
import Derived.Test.YtohillieiccgdaaGreatFWalks0
set_option maxRecDepth 10000
set_option linter.unusedVariables false
namespace Go.Lift
open Go Go.Proofs
variable (G:GS) {n:Nat}
theorem aAt{a}{s}{at_a2}{r}(h:wR n a s at_a2=some r):PQ G 327 [V.agg (aY a),vS s,vI at_a2] (V.tup [V.agg (aY r.1),vI r.2]):=by
 unfold wR at h
 refine pq aN Tryz.func327 rfl fun w X hC=> ?_
 refine rq hC [.z (.b (true)),.z (.nat 20)] [3,6,7] [(3,V.tp (bF a)),(6,V.ref 20 0)] [(20,sc [V.t T.nilS,vI 0])] [(20,true)] (rq hC [] [8] [(8,vI 1)] [] [] (vj h (fun x_=>aZ [(1,vS s),(2,vI at_a2),(3,V.tp (bF a)),(6,V.ref 20 0),(8,vI x_)] [(20,E.cells [V.t T.nilS,vI 0])] [20]) (fun j1 h=> ?_) (fun x3 h=> ?_)))
 ·
  obtain⟨x2,hx2,h⟩:=bd h
  refine rq hC [oY hx2] (fr 14 4) [(17,vB (decide ((x2.toNat:Int)=45)))] [] [] (aQ h (fun c1 h=> ?_) (fun c1 h=> ?_))
  ·exact rk hC [] [8] [(8,vI (-1))] [] [] (lE h)
  ·exact qk (lE h)
 ·refine vj h (fun x_=>aZ [(1,vS s),(2,vI x_),(3,V.tp (bF a)),(6,V.ref 20 0),(8,vI x3)] [(20,E.cells [V.t T.nilS,vI 0])] [20]) (fun j4 h=> ?_) (fun x8 h=> ?_)
  ·
   refine vj h (fun x_=>aZ [(1,vS s),(2,vI at_a2),(3,V.tp (bF a)),(6,V.ref 20 0),(8,vI x3),(27,vB x_)] [(20,E.cells [V.t T.nilS,vI 0])] [20]) (fun j5 h=> ?_) (fun x7 h=> ?_)
   ·
    obtain⟨x6,hx6,h⟩:=bd h
    refine aP h (fun c2 h=> ?_) (fun c2 h=> ?_)
    ·exact rk hC ([oY hx6]++rF 3 c2++[oY hx6,oF c2,oF c2]) (fr 18 10) [(27,vB (decide ((x6.toNat:Int)=43)))] [] [] (lE h)
    ·exact rk hC ([oY hx6]++rT 5 c2) (fr 18 10) [(27,vB true)] [] [] (lE h)
   ·refine aQ h (fun c3 h=> ?_) (fun c3 h=> ?_)
    ·exact rk hC [] [2,28,29] [(2,vI (wr (at_a2+1)))] [] [] (lE h)
    ·exact qk (lE h)
  ·obtain⟨x9,hx9,h⟩:=bd h
   refine rq hC [oV (vZ G hx9)] [9,10,30,31,32,33,34,35] [(9,vI x9.1),(10,vI x9.2)] [] [] (rq hC [] [11,36] [(11,vI x9.2)] [] [] (vj h (fun x_=>aZ [(1,vS s),(2,vI x8),(3,V.tp (bF a)),(6,V.ref 20 0),(8,vI x3),(9,vI x9.1),(10,vI x9.2),(11,vI x_)] [(20,E.cells [V.t T.nilS,vI 0])] [20]) (fun j10 h=> ?_) (fun x14 h=> ?_)))
   ·
    refine vj h (fun x_=>aZ [(1,vS s),(2,vI x8),(3,V.tp (bF a)),(6,V.ref 20 0),(8,vI x3),(9,vI x9.1),(10,vI x9.2),(11,vI x9.2),(51,vB x_)] [(20,E.cells [V.t T.nilS,vI 0])] [20]) (fun j11 h=> ?_) (fun x13 h=> ?_)
    ·
     refine aP h (fun c4 h=> ?_) (fun c4 h=> ?_)
     ·exact rk hC (rF 5 c4++sF 5) (fr 37 15) [(51,vB false)] [] [] (lE h)
     ·refine aP h (fun c5 h=> ?_) (fun c5 h=> ?_)
      ·exact rk hC (rT 5 c4++rF 5 c5) (fr 37 15) [(51,vB false)] [] [] (lE h)
      ·obtain⟨x12,hx12,h⟩:=bd h
       exact rk hC (rT 5 c4++rT 3 c5++[oY hx12,oT c5,oT c5]) (fr 37 15) [(51,vB (decide ((x12.toNat:Int)=42)))] [] [] (lE h)
    ·refine aQ h (fun c6 h=> ?_) (fun c6 h=> ?_)
     ·exact rk hC [] [11,52,53] [(11,vI (wr (x9.2+1)))] [] [] (lE h)
     ·exact qk (lE h)
   ·obtain⟨x15,hx15,h⟩:=bd h
    refine rq hC [oV (aBT G hx15)] [12,54,55,56] [(12,vI x15)] [] [] (qs ?_)
    obtain⟨x16,hx16,h⟩:=bd h
    refine dk hC bK [.z (.nat 21),oA (aT rI hx16),.z (.nat 22),oQ (cL (r:=rI) 1 (fun _=>rfl) []),oQ (cL (r:=rI) 1 (fun _=>rfl) a.coefs)] [13,57,58,59,60,61,62,63] [(13,V.ref 22 0)] [(21,some (ar 3 2 1 rI x16)),(22,sc [ms 21 2 1 rI x16,vI a.const])] [(21,true),(22,true)] (qs (vj h (fun x_=>aZ [(2,vI x8),(3,V.tp (bF a)),(6,V.ref 20 0),(8,vI x3),(9,vI x9.1),(10,vI x9.2),(11,vI x14),(12,vI x15),(13,V.ref 22 0),(75,vB x_)] [(20,E.cells [V.t T.nilS,vI 0]),(21,ar 3 2 1 rI x16),(22,E.cells [ms 21 2 1 rI x16,vI a.const])] [20,21,22]) (fun j17 h=> ?_) (fun x18 h=> ?_)))
    ·
     refine aP h (fun c7 h=> ?_) (fun c7 h=> ?_)
     ·exact rk hC (rF 6 c7) (fr 64 12) [(75,vB false)] [] [] (lE h)
     ·refine aP h (fun c8 h=> ?_) (fun c8 h=> ?_)
      ·exact rk hC (rT 4 c7++rF 3 c8++[oT c7,oF c8,oT c7]) (fr 64 12) [(75,vB (decide (x9.2=x8)))] [] [] (lE h)
      ·exact rk hC (rT 4 c7++rT 3 c8++[oT c7,oT c8,oT c7]) (fr 64 12) [(75,vB true)] [] [] (lE h)
    ·refine aQ h (fun c9 h=> ?_) (fun c9 h=> ?_)
     ·refine qs ?_
      obtain⟨x19,hx19,x20,hx20,h⟩:=dI h
      obtain rfl:=so h
      exact dk hC bK [oQ (kQ rI hx19),oX rI hx19,oQ (kQ rI hx19),oX rI hx19,.z (.rows (List.map rI x20)),oQ (str rI hx20)] (fr 76 13) [] [(21,some (ar 3 2 1 rI x20))] [] (qw (lpP hC [.lenc 22 0 (List.map rI x20).length] [] [] [(22,sc [ms 21 2 1 rI x20,vI a.const])] [] (a1 (s7 rI hx20)) (by kernel_rfl)) (rq hC [.z (.at 5),.z (.fz 21 [] [22])] [7,89,90,91] [(7,vI (wr (x14+1)))] [(22,sc [vM rI x20,vI a.const]),(21,none),(20,sc [vM rI x20,vI a.const])] [] (qr eR)))
     ·refine qk (qs (rq hC [] [92,93,94] [(94,vB (decide (x9.2=x8)))] [] [] (aQ h (fun c10 h=> ?_) (fun c10 h=> ?_))))
      ·obtain rfl:=so h
       exact rq hC [] [7,95] [(7,vI (-1))] [(20,some (E.cells (aY a)))] [] (qr eR)
      ·obtain rfl:=so h
       exact qk (rq hC [] (fr 96 7) [] [(22,sc [ms 21 2 1 rI x16,vI (wr (a.const+(wr (x3*x9.1))))])] [] (rq hC [.z (.at 4),.z (.fz 21 [] [22])] [7,103,104] [(7,vI x9.2)] [(22,sc [vM rI x16,vI (wr (a.const+(wr (x3*x9.1))))]),(21,none),(20,sc [vM rI x16,vI (wr (a.const+(wr (x3*x9.1))))])] [] (qr eR)))
theorem qB{text}{r}(h:jY n text=some r):PQ G 314 [vS text] (V.tup [V.agg (aY r.1),vB r.2]):=by
 unfold jY at h
 refine pq aN Tryz.func314 rfl fun w X hC=> ?_
 refine rq hC [.z (.nat 20)] [2,3] [(2,V.ref 20 0)] [(20,sc [V.t T.nilS,vI 0])] [(20,true)] ?_
 obtain⟨x1,hx1,h⟩:=bd h
 refine rq hC [oC [] [21] (jR G n hx1),.z (.nat 22)] [4,6] [(4,V.ref 22 0)] [(21,some (ar 3 1 1 rI x1.coefs)),(22,sc [ms 21 1 1 rI x1.coefs,vI x1.const])] [(21,true),(22,true)] (qs (rq hC [] [7,8,9] [(9,vB (decide ((40:Int)<(text.length:Int))))] [] [] (aQ h (fun c1 h=> ?_) (fun c1 h=> ?_))))
 ·obtain rfl:=so h
  exact rq hC [] [3,10] [(3,vB false)] [(20,sc [V.t T.nilS,vI 0])] [] (qr eR)
 ·refine qk (rq hC [] [5] [(5,vI 0)] [] [] (qs (qb (qw (lk hC [.fz 21 [] [22]] [] [] [(22,some (E.cells (aY x1))),(21,none)] []) (jC h (fun x_=>aZ [(0,vS text),(2,V.ref 20 0),(4,V.ref 22 0),(5,vI x_.2.2)] [(20,E.cells [V.t T.nilS,vI 0]),(22,E.cells [vM rI x_.1,vI x_.2.1])] [20,21,22]) lS ?_)))))
  rintro again5 ⟨x2,x3,x4⟩ h
  refine qs (vj h (fun x_=>aZ [(0,vS text),(2,V.ref 20 0),(4,V.ref 22 0),(5,vI x4),(18,vB x_)] [(20,E.cells [V.t T.nilS,vI 0]),(22,E.cells [vM rI x2,vI x3])] [20,21,22]) (fun j6 h=> ?_) (fun x7 h=> ?_))
  ·
   refine aP h (fun c2 h=> ?_) (fun c2 h=> ?_)
   ·exact rk hC (rF 5 c2) (fr 11 8) [(18,vB false)] [] [] (lE h)
   ·exact rk hC (rT 5 c2) (fr 11 8) [(18,vB (decide (x4<(text.length:Int))))] [] [] (lE h)
  ·refine aQ h (fun c3 h=> ?_) (fun c3 h=> ?_)
   ·refine qk (qb ?_)
    obtain⟨x8,hx8,h⟩:=bd h
    exact rk hC [oV (aAt G hx8)] [5,19,20,21,22,23,24,25] [(5,vI x8.2)] [(22,some (E.cells (aY x8.1)))] [] (lE h)
   ·refine dA (qs ?_)
    obtain⟨x9,hx9,h⟩:=bd h
    refine rq hC [oV (xJ G hx9)] (fr 26 4) [(29,vB (!decide (x9=text)))] [] [] (aQ h (fun c4 h=> ?_) (fun c4 h=> ?_))
    ·obtain rfl:=so h
     exact rq hC [] [3,30] [(3,vB false)] [(20,sc [V.t T.nilS,vI 0])] [] (qr eR)
    ·obtain rfl:=so h
     exact qk (rq hC [] [3,31] [(3,vB true)] [(20,sc [vM rI x2,vI x3])] [] (qr eR))
theorem yZ{text}{r}(h:nB n text=some r):VQ G 313 [] [vS text] (ms 0 1 2 aB r) [ar 109 1 2 aB r]:=by
 unfold nB at h
 refine vq aN Tryz.func313 rfl fun w X β0 hC hg=> ?_
 refine rq hC [] [2] [] [] [] (rq hC [.z (.nat 20)] [3,8] [(3,ms 20 1 2 aB [])] [(20,some (ar 109 1 2 aB []))] [(20,true)] ?_)
 obtain⟨x1,hx1,h⟩:=bd h
 refine rq hC [oC [] [21] (aBX G hx1)] [4,9,10] [(4,ms 21 1 1 rS x1)] [(21,some (ar 9 1 1 rS x1))] [(21,true)] (qs (rq hC [] [5] [(5,vI 0)] [] [] (qb (bJ (γ:=Nat) h (fun x_ g_=>aZ [(3,ms 20 g_ 2 aB x_.1),(4,ms 21 1 1 rS x1),(5,vI x_.2)] [(20,ar 109 g_ 2 aB x_.1),(21,ar 9 1 1 rS x1)] [20,21]) 1 (lS) ?_))))
 rintro again5 ⟨x2,x3⟩ g4 h
 refine qs (vj h (fun x_=>aZ [(3,ms 20 g4 2 aB x2),(4,ms 21 1 1 rS x1),(5,vI x3),(18,vB x_)] [(20,ar 109 g4 2 aB x2),(21,ar 9 1 1 rS x1)] [20,21]) (fun j6 h=> ?_) (fun x7 h=> ?_))
 ·
  refine aP h (fun c1 h=> ?_) (fun c1 h=> ?_)
  ·exact rk hC ([oN rS x1]++rF 3 c1) (fr 11 8) [(18,vB false)] [] [] (lE h)
  ·exact rk hC ([oN rS x1]++rT 3 c1) (fr 11 8) [(18,vB (decide (x3≤2)))] [] [] (lE h)
 ·refine aQ h (fun c2 h=> ?_) (fun c2 h=> ?_)
  ·refine qk (qs (qb ?_))
   obtain⟨x8,hx8,x9,hx9,h⟩:=dI h
   refine rq hC [oQ (kQ rS hx8),oX rS hx8,oV (qB G hx9),.z (.nat 22)] [6,7,21,22,23,24,25,26,27,28] [(6,V.ref 22 0)] [(22,some (E.cells (aY x9.1)))] [(22,true)] ?_
   obtain⟨x10,hx10,h⟩:=bd h
   exact rk hC [.z (.int 0),oA (aT aB hx10),oQ (cL (r:=aB) 2 bI x2),oQ (cL (r:=aB) 2 bI [x9.1])] [3,29,30,31,32] [(3,ms 20 (g4+1) 2 aB x10)] [(20,some (ar 109 (g4+1) 2 aB x10))] [] (rk hC [] [5,19,20] [(5,vI (wr (x3+1)))] [] [] ⟨(x10,wr (x3+1)),(g4+1),h,lS⟩)
  ·obtain rfl:=so h
   exact dA (rq hC [] [2,33] [(2,ms 20 g4 2 aB x2)] [] [] (qw (lk hC [.ren 2 20 0] [2] [(2,ms 0 1 2 aB x2)] [(0,some (ar 109 1 2 aB x2)),(20,none)] [(0,true)]) (qr eW)))
theorem m7{s}{at_a1}{r}(h:gT n s at_a1=some r):PQ G 282 [vS s,vI at_a1] (V.tup [V.agg (cG r.1),vI r.2]):=by
 unfold gT at h
 refine pq aN Tryz.func282 rfl fun w X hC=> ?_
 refine rq hC [.z (.nat 20)] [4,5] [(4,V.ref 20 0)] [(20,sc [vS [],V.t T.nilS])] [(20,true)] ?_
 obtain⟨x1,hx1,h⟩:=bd h
 refine rq hC [oV (yF G hx1)] (fr 6 4) [(6,vI x1)] [] [] (qs (vj h (fun x_=>aZ [(0,vS s),(1,vI at_a1),(4,V.ref 20 0),(6,vI x1),(20,vB x_)] [(20,E.cells [vS [],V.t T.nilS])] [20]) (fun j2 h=> ?_) (fun x4 h=> ?_)))
 ·
  refine aP h (fun c1 h=> ?_) (fun c1 h=> ?_)
  ·obtain⟨x3,hx3,h⟩:=bd h
   exact rk hC (rF 4 c1++[oY hx3,oF c1,oF c1]) (fr 10 11) [(20,vB (!decide ((x3.toNat:Int)=91)))] [] [] (lE h)
  ·exact rk hC (rT 6 c1) (fr 10 11) [(20,vB true)] [] [] (lE h)
 ·refine aQ h (fun c2 h=> ?_) (fun c2 h=> ?_)
  ·obtain rfl:=so h
   exact rq hC [] [5,21] [(5,vI (-1))] [(20,sc [vS [],V.t T.nilS])] [] (qr eR)
  ·refine qk (qs ?_)
   obtain⟨x5,hx5,x6,hx6,x7,hx7,h⟩:=lR h
   obtain rfl:=so h
   exact dk hC bK [oS hx5,oS hx6,oC [] [21] (yZ G hx7)] [5,22,23,24,25,26,27,28,29,30,31,32,33,34,35] [(5,vI (wr (x1+1)))] [(21,some (ar 109 1 2 aB x7)),(20,sc [vS x5,ms 21 1 2 aB x7])] [(21,true)] (qw (lk hC [.fz 21 [] [20]] [] [] [(20,sc [vS x5,vM aB x7]),(21,none)] []) (qr eR))
theorem aAo(G:GS)(n:Nat)(self:(List UInt8)→Int→Int→Option (Expr×Int))(hself: ∀(q0:List UInt8) (q1:Int) (q2:Int) {r:Expr×Int},self q0 q1 q2=some r→PQ G 283 [vS q0,vI q1,vI q2] (V.tup [V.agg (dU r.1),vI r.2]))(s:List UInt8)(at_a1:Int)(levels:Int){r:Expr×Int}(h:wQ n self s at_a1 levels=some r):PQ G 315 [vS s,vI at_a1,vI levels] (V.tup [V.agg (dU r.1),vI r.2]):=by
 unfold wQ at h
 refine pq aN Tryz.func315 rfl fun w X hC=> ?_
 refine rq hC [.z (.nat 20)] [6,7] [(6,V.ref 20 0)] [(20,sc [vI 0,vI 0,V.t T.nilS,vI 0,vS [],V.t T.nilS,V.t T.nilS])] [(20,true)] ?_
 obtain⟨x1,hx1,h⟩:=bd h
 refine rq hC [oV (hself s at_a1 levels hx1),.z (.nat 21)] [8,9,13,14,15,16,17,18,19] [(8,V.ref 21 0),(9,vI x1.2)] [(21,some (E.cells (dU x1.1)))] [(21,true)] (qs (vj h (fun x_=>aZ [(0,vS s),(2,vI levels),(6,V.ref 20 0),(8,V.ref 21 0),(9,vI x1.2),(27,vB x_)] [(20,E.cells [vI 0,vI 0,V.t T.nilS,vI 0,vS [],V.t T.nilS,V.t T.nilS]),(21,E.cells (dU x1.1))] [20,21]) (fun j2 h=> ?_) (fun x3 h=> ?_)))
 ·
  refine aP h (fun c1 h=> ?_) (fun c1 h=> ?_)
  ·exact rk hC (rF 5 c1) (fr 20 8) [(27,vB (decide ((s.length:Int)≤x1.2)))] [] [] (lE h)
  ·exact rk hC (rT 5 c1) (fr 20 8) [(27,vB true)] [] [] (lE h)
 ·refine aQ h (fun c2 h=> ?_) (fun c2 h=> ?_)
  ·obtain rfl:=so h
   exact rq hC [] [7,28] [(7,vI (-1))] [(20,sc [vI 0,vI 0,V.t T.nilS,vI 0,vS [],V.t T.nilS,V.t T.nilS])] [] (qr eR)
  ·refine qk (rq hC [] [10] [(10,vI 4)] [] [] (vj h (fun x_=>aZ [(0,vS s),(2,vI levels),(6,V.ref 20 0),(8,V.ref 21 0),(9,vI x1.2),(10,vI x_)] [(20,E.cells [vI 0,vI 0,V.t T.nilS,vI 0,vS [],V.t T.nilS,V.t T.nilS]),(21,E.cells (dU x1.1))] [20,21]) (fun j4 h=> ?_) (fun x6 h=> ?_)))
   ·
    obtain⟨x5,hx5,h⟩:=bd h
    refine rq hC [oY hx5] [29,30,31] [(31,vY x5)] [] [] (qb (rq hC [] [32,33] [(32,vB (decide ((x5.toNat:Int)=45)))] [] [] (aQ h (fun c3 h=> ?_) (fun c3 h=> ?_))))
    ·exact rk hC [] [10] [(10,vI 5)] [] [] (lE h)
    ·refine rq hC [] [34,35] [(34,vB (decide ((x5.toNat:Int)=42)))] [] [] (aQ h (fun c4 h=> ?_) (fun c4 h=> ?_))
     ·exact rk hC [] [10] [(10,vI 6)] [] [] (lE h)
     ·exact qk (lE h)
   ·obtain⟨x7,hx7,h⟩:=bd h
    refine rq hC [oV (hself s (wr (x1.2+1)) levels hx7),.z (.nat 22)] [11,12,36,37,38,39,40,41,42,43] [(11,V.ref 22 0),(12,vI x7.2)] [(22,some (E.cells (dU x7.1)))] [(22,true)] (qs (vj h (fun x_=>aZ [(6,V.ref 20 0),(8,V.ref 21 0),(10,vI x6),(11,V.ref 22 0),(12,vI x7.2),(51,vB x_)] [(20,E.cells [vI 0,vI 0,V.t T.nilS,vI 0,vS [],V.t T.nilS,V.t T.nilS]),(21,E.cells (dU x1.1)),(22,E.cells (dU x7.1))] [20,21,22]) (fun j8 h=> ?_) (fun x9 h=> ?_)))
    ·
     refine aP h (fun c5 h=> ?_) (fun c5 h=> ?_)
     ·exact rk hC (rF 5 c5) (fr 44 8) [(51,vB (decide ((s.length:Int)≤x7.2)))] [] [] (lE h)
     ·exact rk hC (rT 5 c5) (fr 44 8) [(51,vB true)] [] [] (lE h)
    ·refine aQ h (fun c6 h=> ?_) (fun c6 h=> ?_)
     ·obtain rfl:=so h
      exact rq hC [] [7,52] [(7,vI (-1))] [(20,sc [vI 0,vI 0,V.t T.nilS,vI 0,vS [],V.t T.nilS,V.t T.nilS])] [] (qr eR)
     ·obtain rfl:=so h
      exact qk (rq hC [.z (.int 2),.z (.rows (List.map aM [x1.1,x7.1])),oQ (aGK x1.1 x7.1)] [7,53,54,55,56,57,58,59] [(7,vI (wr (x7.2+1)))] [(20,sc [vI x6,vI 0,V.t T.nilS,vI 0,vS [],V.t T.nilS,vM aM [x1.1,x7.1]])] [] (qr eR))
theorem aAq(G:GS): ∀(n:Nat) (s:List UInt8) (at_a1:Int) (levels:Int) {r:Expr×Int} (h:s_l3Parse n s at_a1 levels=some r),PQ G 283 [vS s,vI at_a1,vI levels] (V.tup [V.agg (dU r.1),vI r.2]):=by
 intro n
 induction n with
 |zero=>intro s at_a1 levels r h;rw [s_l3Parse.eq_def] at h;cases h
 |succ n ih=>
  intro s at_a1 levels r h
  rw [s_l3Parse.eq_def] at h;dsimp only at h
  refine pq aN Tryz.func283 rfl fun w X hC=> ?_
  refine rq hC [.z (.nat 20)] [6,7] [(6,V.ref 20 0)] [(20,sc [vI 0,vI 0,V.t T.nilS,vI 0,vS [],V.t T.nilS,V.t T.nilS])] [(20,true)] (qs (vj h (fun x_=>aZ [(0,vS s),(1,vI at_a1),(2,vI levels),(6,V.ref 20 0),(26,vB x_)] [(20,E.cells [vI 0,vI 0,V.t T.nilS,vI 0,vS [],V.t T.nilS,V.t T.nilS])] [20]) (fun j1 h=> ?_) (fun x2 h=> ?_)))
  ·
   refine aP h (fun c1 h=> ?_) (fun c1 h=> ?_)
   ·refine aP h (fun c2 h=> ?_) (fun c2 h=> ?_)
    ·exact rk hC (rF 3 c1++rF 5 c2) (fr 15 12) [(26,vB (decide ((s.length:Int)≤at_a1)))] [] [] (lE h)
    ·exact rk hC (rF 3 c1++rT 5 c2) (fr 15 12) [(26,vB true)] [] [] (lE h)
   ·exact rk hC (rT 3 c1++sT 5) (fr 15 12) [(26,vB true)] [] [] (lE h)
  ·refine aQ h (fun c3 h=> ?_) (fun c3 h=> ?_)
   ·obtain rfl:=so h
    exact rq hC [] [7,27] [(7,vI (-1))] [(20,sc [vI 0,vI 0,V.t T.nilS,vI 0,vS [],V.t T.nilS,V.t T.nilS])] [] (qr eR)
   ·refine qk (qs (qb ?_))
    obtain⟨x3,hx3,h⟩:=bd h
    refine rq hC [oY hx3] (fr 28 5) [(28,vB (decide ((x3.toNat:Int)=123)))] [] [] (aQ h (fun c4 h=> ?_) (fun c4 h=> ?_))
    ·obtain⟨x4,hx4,h⟩:=bd h
     refine rq hC [oV (yF G hx4)] [8,33,34,35] [(8,vI x4)] [] [] (qs (rq hC [] [36,37] [(37,vB (decide (x4<0)))] [] [] (aQ h (fun c5 h=> ?_) (fun c5 h=> ?_))))
     ·obtain rfl:=so h
      exact rq hC [] [7,38] [(7,vI (-1))] [(20,sc [vI 0,vI 0,V.t T.nilS,vI 0,vS [],V.t T.nilS,V.t T.nilS])] [] (qr eR)
     ·refine qk ?_
      obtain⟨x5,hx5,x6,hx6,h⟩:=dI h
      obtain rfl:=so h
      exact rq hC [oS hx5,oV (qB G hx6),.z (.nat 21)] [9,10,39,40,41,42,43,44,45,46,47] [(9,V.ref 21 0)] [(21,some (E.cells (aY x6.1)))] [(21,true)] (rq hC [] [7,48,49,50,51] [(7,vI (wr (x4+1)))] [(20,sc [vI 2,vI 0,vM rI x6.1.coefs,vI x6.1.const,vS [],V.t T.nilS,V.t T.nilS])] [] (qr eR))
    ·refine vj h (fun x_=>aZ [(0,vS s),(1,vI at_a1),(2,vI levels),(6,V.ref 20 0),(52,vB x_)] [(20,E.cells [vI 0,vI 0,V.t T.nilS,vI 0,vS [],V.t T.nilS,V.t T.nilS])] [20]) (fun j7 h=> ?_) (fun x8 h=> ?_)
     ·
      refine aP h (fun c6 h=> ?_) (fun c6 h=> ?_)
      ·exact rk hC ([oY hx3]++rF 5 c6) (fr 52 11) [(52,vB false)] [] [] (lE h)
      ·exact rk hC ([oY hx3]++rT 3 c6++[oY hx3,oT c6,oT c6]) (fr 52 11) [(52,vB (decide ((x3.toNat:Int)≤68)))] [] [] (lE h)
     ·refine aQ h (fun c7 h=> ?_) (fun c7 h=> ?_)
      ·obtain⟨x9,hx9,h⟩:=bd h
       obtain rfl:=so h
       exact rq hC [oV (m7 G hx9),.z (.nat 21)] [11,12,63,64,65,66,67,68] [(11,V.ref 21 0),(12,vI x9.2)] [(21,some (E.cells (cG x9.1)))] [(21,true)] (rq hC [] [7,69,70,71] [(7,vI x9.2)] [(20,sc [vI 3,vI 0,V.t T.nilS,vI 0,vS x9.1.array,vM aB x9.1.subs,V.t T.nilS])] [] (qr eR))
      ·refine rq hC [oY hx3] (fr 72 5) [(72,vB (decide ((x3.toNat:Int)=40)))] [] [] (aQ h (fun c8 h=> ?_) (fun c8 h=> ?_))
       ·obtain⟨x10,hx10,h⟩:=bd h
        obtain rfl:=so h
        exact rq hC [oV (aAo G n (s_l3Parse n) (fun q0 q1 q2 r h=>ih q0 q1 q2 h) s (wr (at_a1+1)) (wr (levels-1)) hx10)] [7,77,78,79,80,81,82,83,84] [(7,vI x10.2)] [(20,some (E.cells (dU x10.1)))] [] (qr eR)
       ·refine qk ?_
        obtain⟨x11,hx11,h⟩:=bd h
        refine rq hC [oV (vZ G hx11)] [13,14,85,86,87,88,89,90] [(13,vI x11.1),(14,vI x11.2)] [] [] (qs (rq hC [] [91,92,93] [(93,vB (decide (x11.2=at_a1)))] [] [] (aQ h (fun c9 h=> ?_) (fun c9 h=> ?_))))
        ·obtain rfl:=so h
         exact rq hC [] [7,94] [(7,vI (-1))] [(20,sc [vI 0,vI 0,V.t T.nilS,vI 0,vS [],V.t T.nilS,V.t T.nilS])] [] (qr eR)
        ·obtain rfl:=so h
         exact qk (rq hC [] [7,95,96,97] [(7,vI x11.2)] [(20,sc [vI 1,vI x11.1,V.t T.nilS,vI 0,vS [],V.t T.nilS,V.t T.nilS])] [] (qr eR))
theorem G9{list}{r}(h:o1 n list=some r):PQ G 319 [vM aB list] (vS r):=by
 unfold o1 at h
 refine pq aN Tryz.func319 rfl fun w X hC=> ?_
 refine rq hC [] [2] [] [] [] (rq hC [] [3] [(3,vS [])] [] [] (qs (rq hC [] [4] [(4,vI 0)] [] [] (qb (jC h (fun x_=>aZ [(0,vM aB list),(3,vS x_.1),(4,vI x_.2)] [] []) lS ?_)))))
 rintro again3 ⟨x1,x2⟩ h
 refine qs (rq hC [oN aB list] (fr 5 4) [(8,vB (decide (x2<(list.length:Int))))] [] [] (aQ h (fun c1 h=> ?_) (fun c1 h=> ?_)))
 ·refine qk (qs (qb (vj h (fun x_=>aZ [(0,vM aB list),(3,vS x_),(4,vI x2)] [] []) (fun j4 h=> ?_) (fun x6 h=> ?_))))
  ·
   refine rq hC [] [11,12] [(12,vB (decide ((0:Int)<x2)))] [] [] (aQ h (fun c2 h=> ?_) (fun c2 h=> ?_))
   ·obtain⟨x5,hx5,h⟩:=bd h
    exact rk hC [oS hx5] [3,13,14] [(3,vS x5)] [] [] (lE h)
   ·exact qk (lE h)
  ·obtain⟨x7,hx7,x8,hx8,x9,hx9,h⟩:=lR h
   exact rk hC [oR aB hx7,oV (uE G hx8),oS hx9] [3,15,16,17,18,19,20,21] [(3,vS x9)] [] [] (rk hC [] [4,9,10] [(4,vI (wr (x2+1)))] [] [] (lE h))
 ·obtain rfl:=so h
  exact dA (rq hC [] [2,22] [(2,vS x1)] [] [] (qr eR))
theorem oK{a}{r}(h:iK n a=some r):PQ G 291 [V.agg (cG a)] (vS r):=by
 unfold iK at h
 refine pq aN Tryz.func291 rfl fun w X hC=> ?_
 refine rq hC [.z (.b (true))] [1,2] [(1,V.tp (cV a))] [] [] (qs ?_)
 obtain⟨x1,hx1,x2,hx2,x3,hx3,h⟩:=lR h
 obtain⟨x4,hx4,h⟩:=bd h
 obtain rfl:=so h
 exact dk hC bK [oS hx1,oV (G9 G hx2),oS hx3,oS hx4] (fr 2 9) [(2,vS x4)] [] [] (qr eR)
theorem aBO(G:GS): ∀(n:Nat) (e:Expr) {r:(List UInt8)} (h:s_l3Text n e=some r),PQ G 292 [V.agg (dU e)] (vS r):=by
 intro n
 induction n with
 |zero=>intro e r h;rw [s_l3Text.eq_def] at h;cases h
 |succ n ih=>
  intro e r h
  rw [s_l3Text.eq_def] at h;dsimp only at h
  refine pq aN Tryz.func292 rfl fun w X hC=> ?_
  refine rq hC [.z (.b (true))] [1,2] [(1,V.tp (gJ e))] [] [] (qs (rq hC [] [3,4] [(4,vI e.kind)] [] [] (qb (rq hC [] [5,6] [(5,vB (decide (e.kind=1)))] [] [] (aQ h (fun c1 h=> ?_) (fun c1 h=> ?_))))))
  ·obtain⟨x1,hx1,h⟩:=bd h
   obtain rfl:=so h
   exact rq hC [oV (uF G n e.num hx1)] [2,7,8,9] [(2,vS x1)] [] [] (qr eR)
  ·refine rq hC [] [10,11] [(10,vB (decide (e.kind=2)))] [] [] (aQ h (fun c2 h=> ?_) (fun c2 h=> ?_))
   ·obtain⟨x2,hx2,x3,hx3,x4,hx4,h⟩:=lR h
    obtain rfl:=so h
    exact rq hC [oV (uE G hx2),oS hx3,oS hx4] [2,12,13,14,15,16] [(2,vS x4)] [] [] (qr eR)
   ·refine rq hC [] [17,18] [(17,vB (decide (e.kind=3)))] [] [] (aQ h (fun c3 h=> ?_) (fun c3 h=> ?_))
    ·obtain⟨x5,hx5,h⟩:=bd h
     obtain rfl:=so h
     exact rq hC [oV (oK G hx5)] [2,19,20,21] [(2,vS x5)] [] [] (qr eR)
    ·refine qk (qs ?_)
     obtain⟨x6,hx6,x7,hx7,x8,hx8,h⟩:=lR h
     obtain⟨x9,hx9,x10,hx10,x11,hx11,h⟩:=lR h
     obtain⟨x12,hx12,x13,hx13,x14,hx14,h⟩:=lR h
     obtain rfl:=so h
     exact dk hC bK [.z (.row (cJ x6)),oQ (cN aM hx6 (bU x6)),oV (ih x6 hx7),oS hx8,oS hx9,oS hx10,.z (.row (cJ x11)),oQ (cN aM hx11 (bU x11)),oV (ih x11 hx12),oS hx13,oS hx14] [2,22,23,24,25,26,27,28,29,30,31,32,33,34,35,36,37,38,39,40,41,42,43] [(2,vS x14)] [] [] (qr eR)
theorem H4{s}{r}(h:o4 n s=some r):PQ G 284 [V.agg (eO s)] (vS r):=by
 unfold o4 at h
 refine pq aN Tryz.func284 rfl fun w X hC=> ?_
 refine rq hC [.z (.b (true))] [1,2] [(1,V.tp (kT s))] [] [] (qs ?_)
 obtain⟨x1,hx1,h⟩:=bd h
 refine rq hC [oV (nH G hx1)] [3,4,5] [(5,vB (!x1))] [] [] (aQ h (fun c1 h=> ?_) (fun c1 h=> ?_))
 ·obtain rfl:=so h
  exact rq hC [] [2] [(2,vS [])] [] [] (qr eR)
 ·refine qk (qs ?_)
  obtain⟨x2,hx2,x3,hx3,x4,hx4,h⟩:=lR h
  obtain⟨x5,hx5,h⟩:=bd h
  obtain rfl:=so h
  exact dk hC bK [oV (oK G hx2),oS hx3,oV (aBO G n s.value hx4),oS hx5] [2,6,7,8,9,10,11,12,13] [(2,vS x5)] [] [] (qr eR)
theorem J8{text}{r}(h:mS n text=some r):PQ G 242 [vS text] (V.tup [V.agg (eO r.1),vB r.2]):=by
 unfold mS at h
 refine pq aN Tryz.func242 rfl fun w X hC=> ?_
 refine rq hC [.z (.nat 20)] [2,3] [(2,V.ref 20 0)] [(20,sc [vS [],V.t T.nilS,vI 0,vI 0,V.t T.nilS,vI 0,vS [],V.t T.nilS,V.t T.nilS])] [(20,true)] (qs (rq hC [] [9,10,11] [(11,vB (decide ((text.length:Int)<4)))] [] [] (aQ h (fun c1 h=> ?_) (fun c1 h=> ?_))))
 ·obtain rfl:=so h
  exact rq hC [] [3,12] [(3,vB false)] [(20,sc [vS [],V.t T.nilS,vI 0,vI 0,V.t T.nilS,vI 0,vS [],V.t T.nilS,V.t T.nilS])] [] (qr eR)
 ·refine qk ?_
  obtain⟨x1,hx1,h⟩:=bd h
  refine rq hC [oV (m7 G hx1),.z (.nat 21)] [4,5,13,14,15,16,17] [(4,V.ref 21 0),(5,vI x1.2)] [(21,some (E.cells (cG x1.1)))] [(21,true)] (qs (vj h (fun x_=>aZ [(0,vS text),(2,V.ref 20 0),(4,V.ref 21 0),(5,vI x1.2),(25,vB x_)] [(20,E.cells [vS [],V.t T.nilS,vI 0,vI 0,V.t T.nilS,vI 0,vS [],V.t T.nilS,V.t T.nilS]),(21,E.cells (cG x1.1))] [20,21]) (fun j2 h=> ?_) (fun x3 h=> ?_)))
  ·
   refine aP h (fun c2 h=> ?_) (fun c2 h=> ?_)
   ·exact rk hC (rF 5 c2) (fr 18 8) [(25,vB (decide ((text.length:Int)≤x1.2)))] [] [] (lE h)
   ·exact rk hC (rT 5 c2) (fr 18 8) [(25,vB true)] [] [] (lE h)
  ·refine aQ h (fun c3 h=> ?_) (fun c3 h=> ?_)
   ·obtain rfl:=so h
    exact rq hC [] [3,26] [(3,vB false)] [(20,sc [vS [],V.t T.nilS,vI 0,vI 0,V.t T.nilS,vI 0,vS [],V.t T.nilS,V.t T.nilS])] [] (qr eR)
   ·refine qk ?_
    obtain⟨x4,hx4,h⟩:=bd h
    refine rq hC [oV (aAq G n text (wr (x1.2+1)) 5 hx4),.z (.nat 22)] [6,7,27,28,29,30,31,32,33] [(6,V.ref 22 0)] [(22,some (E.cells (dU x4.1)))] [(22,true)] (rq hC [.z (.nat 23)] [8,34,35,36] [(8,V.ref 23 0)] [(23,sc [vS x1.1.array,vM aB x1.1.subs,vI x4.1.kind,vI x4.1.num,vM rI x4.1.index.coefs,vI x4.1.index.const,vS x4.1.read.array,vM aB x4.1.read.subs,vM aM x4.1.kids])] [(23,true)] (qs ?_))
    obtain⟨x5,hx5,h⟩:=bd h
    refine rq hC [oV (H4 G hx5)] (fr 37 4) [(40,vB (!decide (x5=text)))] [] [] (aQ h (fun c4 h=> ?_) (fun c4 h=> ?_))
    ·obtain rfl:=so h
     exact rq hC [] [3,41] [(3,vB false)] [(20,sc [vS [],V.t T.nilS,vI 0,vI 0,V.t T.nilS,vI 0,vS [],V.t T.nilS,V.t T.nilS])] [] (qr eR)
    ·obtain rfl:=so h
     exact qk (rq hC [] [3,42] [(3,vB true)] [(20,sc [vS x1.1.array,vM aB x1.1.subs,vI x4.1.kind,vI x4.1.num,vM rI x4.1.index.coefs,vI x4.1.index.const,vS x4.1.read.array,vM aB x4.1.read.subs,vM aM x4.1.kids])] [] (qr eR))
theorem aAw{sizes}{r}(h:sJ n sizes=some r):VQ G 243 [] [vM rI sizes] (V.tup [ms 0 1 2 aD r.1,vB r.2]) [ar 147 1 2 aD r.1]:=by
 unfold sJ at h
 refine vq aN Tryz.func243 rfl fun w X β0 hC hg=> ?_
 refine rq hC [] [2,3] [] [] [] (rq hC [.z (.nat 20)] [4,6] [(4,ms 20 1 2 aD [])] [(20,some (ar 147 1 2 aD []))] [(20,true)] (qs (rq hC [oN rI sizes] [7,8,9] [(9,vB (decide ((4:Int)<(sizes.length:Int))))] [] [] (aQ h (fun c1 h=> ?_) (fun c1 h=> ?_)))))
 ·obtain rfl:=so h
  exact rq hC [] [2,3,10] [(2,ms 20 1 2 aD []),(3,vB false)] [] [] (qw (lk hC [.ren 2 20 0] [2] [(2,ms 0 1 2 aD [])] [(0,some (ar 147 1 2 aD [])),(20,none)] [(0,true)]) (qr eW))
 ·refine qk (qs (rq hC [] [5] [(5,vI 0)] [] [] (qb (bJ (γ:=Nat) h (fun x_ g_=>aZ [(0,vM rI sizes),(4,ms 20 g_ 2 aD x_.1),(5,vI x_.2)] [(20,ar 147 g_ 2 aD x_.1)] [20]) 1 (lS) ?_))))
  rintro again4 ⟨x1,x2⟩ g3 h
  refine qs (rq hC [oN rI sizes] (fr 11 4) [(14,vB (decide (x2<(sizes.length:Int))))] [] [] (aQ h (fun c2 h=> ?_) (fun c2 h=> ?_)))
  ·refine qk (qs (qb (qs (vj h (fun x_=>aZ [(0,vM rI sizes),(4,ms 20 g3 2 aD x1),(5,vI x2),(28,vB x_)] [(20,ar 147 g3 2 aD x1)] [20]) (fun j5 h=> ?_) (fun x7 h=> ?_)))))
   ·
    obtain⟨x6,hx6,h⟩:=bd h
    refine aP h (fun c3 h=> ?_) (fun c3 h=> ?_)
    ·exact rk hC ([oR rI hx6]++rF 3 c3++[oR rI hx6]++rF 3 c3) (fr 17 12) [(28,vB (decide ((99:Int)<x6)))] [] [] (lE h)
    ·exact rk hC ([oR rI hx6]++rT 6 c3) (fr 17 12) [(28,vB true)] [] [] (lE h)
   ·refine aQ h (fun c4 h=> ?_) (fun c4 h=> ?_)
    ·obtain rfl:=so h
     exact rq hC [.z (.nat 21)] [2,3,29] [(2,ms 21 1 2 aD []),(3,vB false)] [(21,some (ar 147 1 2 aD []))] [(21,true)] (qw (lk hC [.ren 2 21 0] [2] [(2,ms 0 1 2 aD [])] [(0,some (ar 147 1 2 aD [])),(21,none)] [(0,true)]) (qr eW))
    ·refine qk ?_
     obtain⟨x8,hx8,x9,hx9,x10,hx10,h⟩:=lR h
     obtain⟨x11,hx11,h⟩:=bd h
     exact dk hC bK [oC [] [21] (jR G n hx8),.z (.at 11),.z (.fz 21 [31] []),.z (.int 0),oR rI hx9,oC [] [22] (cK G hx10),.z (.at 5),.z (.fz 22 [37] []),.z (.int 0),.z (.int 0),oA (aT aD hx11),oQ (cL (r:=aD) 2 iE x1),oQ (cL (r:=aD) 2 iE [(⟨[x8],[x10]⟩:Loop)])] [4,30,31,32,33,34,35,36,37,38,39,40,41] [(4,ms 20 (g3+1) 2 aD x11)] [(21,none),(22,none),(20,some (ar 147 (g3+1) 2 aD x11))] [(21,true),(22,true)] (rk hC [] [5,15,16] [(5,vI (wr (x2+1)))] [] [] ⟨(x11,wr (x2+1)),(g3+1),h,lS⟩)
  ·obtain rfl:=so h
   exact dA (rq hC [] [2,3,42] [(2,ms 20 g3 2 aD x1),(3,vB true)] [] [] (qw (lk hC [.ren 2 20 0] [2] [(2,ms 0 1 2 aD x1)] [(0,some (ar 147 1 2 aD x1)),(20,none)] [(0,true)]) (qr eW)))
theorem aAs{p}{r}(h:nU n p=some r):PQ G 224 [vM rI p] (vB r):=by
 unfold nU at h
 refine pq aN Tryz.func224 rfl fun w X hC=> ?_
 refine rq hC [] [2] [] [] [] (qs (rq hC [] [3] [(3,vI 0)] [] [] (qb (jC h (fun x_=>aZ [(0,vM rI p),(3,vI x_)] [] []) lS ?_))))
 rintro again2 x1 h
 refine qs (rq hC [oN rI p] (fr 4 4) [(7,vB (decide (x1<(p.length:Int))))] [] [] (aQ h (fun c1 h=> ?_) (fun c1 h=> ?_)))
 ·refine qk (qs (qb ?_))
  obtain⟨x3,hx3,x4,hx4,h⟩:=dI h
  refine rq hC [oR rI hx3,oV (pO G hx4)] (fr 10 6) [(15,vB (!x4))] [] [] (aQ h (fun c2 h=> ?_) (fun c2 h=> ?_))
  ·obtain rfl:=so h
   exact rq hC [] [2] [(2,vB false)] [] [] (qr eR)
  ·exact qk (rk hC [] [3,8,9] [(3,vI (wr (x1+1)))] [] [] (lE h))
 ·obtain rfl:=so h
  exact dA (rq hC [oN rI p] [2,16,17,18] [(2,vB (decide ((p.length:Int)≤4)))] [] [] (qr eR))
theorem aAp(G:GS): ∀(n:Nat) (out:List Access) (outG:Nat) (e:Expr) {r:(List Access)} (h:s_l3Reads n out e=some r),VQ G 225 [ar 107 outG 2 aO out] [ms 0 outG 2 aO out,V.agg (dU e)] (ms 0 (outG+1) 2 aO r) [ar 107 (outG+1) 2 aO r]:=by
 intro n
 induction n with
 |zero=>intro out outG e r h;rw [s_l3Reads.eq_def] at h;cases h
 |succ n ih=>
  intro out outG e r h
  rw [s_l3Reads.eq_def] at h;dsimp only at h
  refine vq aN Tryz.func225 rfl fun w X β0 hC hg=> ?_
  refine rq hC [.z (.b (true))] [3,4] [(3,V.tp (gJ e))] [] [] ?_
  obtain⟨j1,hj1,h⟩:=yU h
  refine jE (γ:=Nat) (j:=j1) (r:=r) (fun x_ g_=>aZ [(0,ms 0 g_ 2 aO x_),(3,V.tp (gJ e))] [(0,ar 107 g_ 2 aO x_)] [0]) ?_ ?_
  ·
   refine rq hC [] [6,7,8] [(8,vB (decide (e.kind=3)))] [] [] (aQ h (fun c1 h=> ?_) (fun c1 h=> ?_))
   ·obtain⟨x2,hx2,x3,hx3,h⟩:=dI h
    exact rk hC [oC [] [20] (jQ G hx2),.z (.at 3),.z (.fz 20 [12] []),.z (.int 0),oA (aT aO hx3),oQ (cL (r:=aO) 2 mT out),oQ (cL (r:=aO) 2 mT [x2])] [0,9,10,11,12,13,14] [(0,ms 0 (outG+1) 2 aO x3)] [(20,none),(0,some (ar 107 (outG+1) 2 aO x3))] [(20,true)] ⟨x3,(outG+1),h,lS⟩
   ·exact qk ⟨out,outG,h,lS⟩
  ·rintro x4 g5 h
   subst hj1
   refine qs (rq hC [] [5] [(5,vI 0)] [] [] (qb (bJ (γ:=Nat) h (fun x_ g_=>aZ [(0,ms 0 g_ 2 aO x_.1),(3,V.tp (gJ e)),(5,vI x_.2)] [(0,ar 107 g_ 2 aO x_.1)] [0]) g5 (lS) ?_)))
   rintro again9 ⟨x6,x7⟩ g8 h
   refine qs (rq hC [oN aM e.kids] (fr 15 5) [(19,vB (decide (x7<(e.kids.length:Int))))] [] [] (aQ h (fun c2 h=> ?_) (fun c2 h=> ?_)))
   ·refine qk (qs (qb ?_))
    obtain⟨x10,hx10,x11,hx11,h⟩:=dI h
    exact rk hC [.z (.row (cJ x10)),oQ (cN aM hx10 (bU x10)),oC [0] [] (ih x6 g8 x10 hx11)] [0,22,23,24,25,26,27,28] [(0,ms 0 (g8+1) 2 aO x11)] [(0,some (ar 107 (g8+1) 2 aO x11))] [(0,true)] (rk hC [] [5,20,21] [(5,vI (wr (x7+1)))] [] [] ⟨(x11,wr (x7+1)),(g8+1),h,lS⟩)
   ·obtain rfl:=so h
    exact dA (rq hC [] [4,29] [(4,ms 0 g8 2 aO x6)] [] [] (qw (sD 4 0 outG g8 2 0 (List.map aO x6).length (e:= .arr 107 g8 2 (List.map aO x6)) rfl (by kernel_rfl) (by kernel_rfl) rfl rfl hg.1) (qr eW)))
theorem G3{a}{r}(h:nR n a=some r):PQ G 236 [V.agg [vS a.name,vM rI a.dims]] (vI r):=by
 unfold nR at h
 refine pq aN Tryz.func236 rfl fun w X hC=> ?_
 refine rq hC [.z (.b (true))] [1,2] [(1,V.tp [T.str a.name,T.sl (List.map rI a.dims)])] [] [] (rq hC [] [3] [(3,vI 1)] [] [] (qs (rq hC [] [4] [(4,vI 0)] [] [] (qb (jC h (fun x_=>aZ [(1,V.tp [T.str a.name,T.sl (List.map rI a.dims)]),(3,vI x_.1),(4,vI x_.2)] [] []) lS ?_)))))
 rintro again3 ⟨x1,x2⟩ h
 refine qs (rq hC [oN rI a.dims] (fr 5 5) [(9,vB (decide (x2<(a.dims.length:Int))))] [] [] (aQ h (fun c1 h=> ?_) (fun c1 h=> ?_)))
 ·refine qk (qs (qb ?_))
  obtain⟨x4,hx4,h⟩:=bd h
  exact rk hC [oR rI hx4] [3,12,13,14,15,16,17,18] [(3,vI (wr (x1*x4)))] [] [] (rk hC [] [4,10,11] [(4,vI (wr (x2+1)))] [] [] (lE h))
 ·obtain rfl:=so h
  exact dA (rq hC [] [2,19] [(2,vI x1)] [] [] (qr eR))
theorem mM{a}{point}{r}(h:fM n a point=some r):PQ G 239 [V.agg (aY a),vM rI point] (vI r):=by
 unfold fM at h
 refine pq aN Tryz.func239 rfl fun w X hC=> ?_
 refine rq hC [.z (.b (true))] [2,4] [(2,V.tp (bF a))] [] [] (rq hC [] [5,7,8] [(5,vI a.const)] [] [] (qs (rq hC [] [6] [(6,vI 0)] [] [] (qb (jC h (fun x_=>aZ [(1,vM rI point),(2,V.tp (bF a)),(5,vI x_.1),(6,vI x_.2)] [] []) lS ?_)))))
 rintro again3 ⟨x1,x2⟩ h
 refine qs (vj h (fun x_=>aZ [(1,vM rI point),(2,V.tp (bF a)),(5,vI x1),(6,vI x2),(19,vB x_)] [] []) (fun j4 h=> ?_) (fun x5 h=> ?_))
 ·
  refine aP h (fun c1 h=> ?_) (fun c1 h=> ?_)
  ·exact rk hC ([oN rI point]++rF 6 c1) (fr 9 11) [(19,vB false)] [] [] (lE h)
  ·exact rk hC ([oN rI point]++rT 4 c1++[oN rI a.coefs,oT c1,oT c1]) (fr 9 11) [(19,vB (decide (x2<(a.coefs.length:Int))))] [] [] (lE h)
 ·refine aQ h (fun c2 h=> ?_) (fun c2 h=> ?_)
  ·refine qk (qs (qb ?_))
   obtain⟨x6,hx6,x7,hx7,h⟩:=dI h
   exact dk hC bK [oR rI hx6,oR rI hx7] [5,22,23,24,25,26,27,28,29,30,31,32,33] [(5,vI (wr (x1+(wr (x6*x7)))))] [] [] (rk hC [] [6,20,21] [(6,vI (wr (x2+1)))] [] [] (lE h))
  ·obtain rfl:=so h
   exact dA (rq hC [] [4,34] [(4,vI x1)] [] [] (qr eR))
theorem G4{list}{a}{point}{r}(h:nS n list a point=some r):PQ G 170 [vM aV list,V.agg (cG a),vM rI point] (vI r):=by
 unfold nS at h
 refine pq aN Tryz.func170 rfl fun w X hC=> ?_
 refine rq hC [.z (.b (true))] [4,6] [(4,V.tp (cV a))] [] [] (rq hC [] [7] [(7,vI 0)] [] [] (qs (rq hC [] [8] [(8,vI 0)] [] [] (qb (jC h (fun x_=>aZ [(0,vM aV list),(2,vM rI point),(4,V.tp (cV a)),(7,vI x_.1),(8,vI x_.2)] [] []) lS ?_)))))
 rintro again3 ⟨x1,x2⟩ h
 refine qs (rq hC [oN aV list] (fr 12 4) [(15,vB (decide (x2<(list.length:Int))))] [] [] (aQ h (fun c1 h=> ?_) (fun c1 h=> ?_)))
 ·refine qk (qs (qb (qs (qs ?_))))
  obtain⟨x4,hx4,h⟩:=bd h
  refine dk hC bK [oR aV hx4] (fr 18 8) [(25,vB (!decide (x4.name=a.array)))] [] [] (aQ h (fun c2 h=> ?_) (fun c2 h=> ?_))
  ·obtain⟨x5,hx5,h⟩:=bd h
   exact rq hC [oR aV hx4,oV (G3 G hx5)] [7,26,27,28,29,30,31,32] [(7,vI (wr (x1+x5)))] [] [] (dA (rk hC [] [8,16,17] [(8,vI (wr (x2+1)))] [] [] (lE h)))
  ·refine qk (rq hC [] [9] [(9,vI 0)] [] [] (qs (rq hC [] [10] [(10,vI 0)] [] [] (qb (jC h (fun x_=>aZ [(0,vM aV list),(2,vM rI point),(4,V.tp (cV a)),(7,vI x1),(8,vI x2),(9,vI x_.1),(10,vI x_.2)] [] []) lS ?_)))))
   rintro again8 ⟨x6,x7⟩ h
   refine qs (rq hC [oN aB a.subs] (fr 33 5) [(37,vB (decide (x7<(a.subs.length:Int))))] [] [] (aQ h (fun c3 h=> ?_) (fun c3 h=> ?_)))
   ·refine qk (qs (qb (qs (qs (dk hC bK [oN aB a.subs,oR aV hx4,oN rI x4.dims] (fr 40 10) [(49,vB (!decide ((a.subs.length:Int)=(x4.dims.length:Int))))] [] [] ?_)))))
    refine aQ h (fun c4 h=> ?_) (fun c4 h=> ?_)
    ·obtain rfl:=so h
     exact rq hC [] [6] [(6,vI (-1))] [] [] (qr eR)
    ·refine qk ?_
     obtain⟨x9,hx9,x10,hx10,h⟩:=dI h
     refine rq hC [oR aB hx9,oV (mM G hx10)] [11,50,51,52,53,54,55,56] [(11,vI x10)] [] [] (qs (vj h (fun x_=>aZ [(0,vM aV list),(2,vM rI point),(4,V.tp (cV a)),(7,vI x1),(8,vI x2),(9,vI x6),(10,vI x7),(11,vI x10),(70,vB x_)] [] []) (fun j11 h=> ?_) (fun x13 h=> ?_)))
     ·
      refine aP h (fun c5 h=> ?_) (fun c5 h=> ?_)
      ·obtain⟨x12,hx12,h⟩:=bd h
       exact rk hC (rF 4 c5++[oR aV hx4]++rF 4 c5++[oR rI hx12]++rF 3 c5) (fr 57 14) [(70,vB (decide (x12≤x10)))] [] [] (lE h)
      ·exact rk hC (rT 11 c5) (fr 57 14) [(70,vB true)] [] [] (lE h)
     ·refine aQ h (fun c6 h=> ?_) (fun c6 h=> ?_)
      ·obtain rfl:=so h
       exact rq hC [] [6] [(6,vI (-1))] [] [] (qr eR)
      ·refine qk ?_
       obtain⟨x14,hx14,h⟩:=bd h
       exact rk hC [oR aV hx4,oR rI hx14] [9,71,72,73,74,75,76,77,78,79,80,81,82] [(9,vI (wr ((wr (x6*x14))+x10)))] [] [] (rk hC [] [10,38,39] [(10,vI (wr (x7+1)))] [] [] (lE h))
   ·obtain rfl:=so h
    exact dA (rq hC [] [6,83,84,85] [(6,vI (wr (x1+x6)))] [] [] (qr eR))
 ·obtain rfl:=so h
  exact dA (rq hC [] [6] [(6,vI (-1))] [] [] (qr eR))
theorem yE{list}{s}{point}{r}(h:jF n list s point=some r):VQ G 157 [] [vM aV list,V.agg (eO s),vM rI point] (V.tup [ms 0 1 1 rI r.1,vI r.2.1,vB r.2.2]) [ar 3 1 1 rI r.1]:=by
 unfold jF at h
 refine vq aN Tryz.func157 rfl fun w X β0 hC hg=> ?_
 refine rq hC [.z (.b (true))] [4,6,7,8] [(4,V.tp (kT s))] [] [] (rq hC [.z (.nat 20)] [9,14] [(9,ms 20 1 1 rI [])] [(20,some (ar 3 1 1 rI []))] [(20,true)] ?_)
 obtain⟨x1,hx1,h⟩:=bd h
 refine rq hC [.z (.nat 21),oC [21] [] (aAp G n [] 1 s.value hx1)] [10,15,16,17,18] [(10,ms 21 2 2 aO x1)] [(21,some (ar 107 2 2 aO x1))] [(21,true),(21,true)] (qs (rq hC [] [11] [(11,vI 0)] [] [] (qb (bJ (γ:=Nat) h (fun x_ g_=>aZ [(0,vM aV list),(2,vM rI point),(4,V.tp (kT s)),(9,ms 20 g_ 1 rI x_.1),(10,ms 21 2 2 aO x1),(11,vI x_.2)] [(20,ar 3 g_ 1 rI x_.1),(21,ar 107 2 2 aO x1)] [20,21]) 1 (lS) ?_))))
 rintro again5 ⟨x2,x3⟩ g4 h
 refine qs (rq hC [oN aO x1] (fr 19 4) [(22,vB (decide (x3<(x1.length:Int))))] [] [] (aQ h (fun c1 h=> ?_) (fun c1 h=> ?_)))
 ·refine qk (qs (qb ?_))
  obtain⟨x6,hx6,x7,hx7,h⟩:=dI h
  refine rq hC [oQ (kQ aO hx6),oX aO hx6,oV (G4 G hx7)] [12,25,26,27,28,29,30,31] [(12,vI x7)] [] [] (qs (rq hC [] [32,33] [(33,vB (decide (x7<0)))] [] [] (aQ h (fun c2 h=> ?_) (fun c2 h=> ?_))))
  ·obtain rfl:=so h
   exact rq hC [.z (.nat 22)] [6,7,8,34] [(6,ms 22 1 1 rI []),(7,vI 0),(8,vB false)] [(22,some (ar 3 1 1 rI []))] [(22,true)] (qw (lk hC [.ren 6 22 0] [6] [(6,ms 0 1 1 rI [])] [(0,some (ar 3 1 1 rI [])),(22,none)] [(0,true)]) (qr eW))
  ·refine qk ?_
   obtain⟨x8,hx8,h⟩:=bd h
   exact rk hC [.z (.int 0),oA (aT rI hx8),oQ (cL (r:=rI) 1 (fun _=>rfl) x2),oQ (cL (r:=rI) 1 (fun _=>rfl) [x7])] [9,35,36,37,38] [(9,ms 20 (g4+1) 1 rI x8)] [(20,some (ar 3 (g4+1) 1 rI x8))] [] (rk hC [] [11,23,24] [(11,vI (wr (x3+1)))] [] [] ⟨(x8,wr (x3+1)),(g4+1),h,lS⟩)
 ·refine dA ?_
  obtain⟨x9,hx9,h⟩:=bd h
  refine rq hC [oV (G4 G hx9)] [13,39,40,41,42,43] [(13,vI x9)] [] [] (qs (rq hC [] [44,45] [(45,vB (decide (x9<0)))] [] [] (aQ h (fun c3 h=> ?_) (fun c3 h=> ?_))))
  ·obtain rfl:=so h
   exact rq hC [.z (.nat 22)] [6,7,8,46] [(6,ms 22 1 1 rI []),(7,vI 0),(8,vB false)] [(22,some (ar 3 1 1 rI []))] [(22,true)] (qw (lk hC [.ren 6 22 0] [6] [(6,ms 0 1 1 rI [])] [(0,some (ar 3 1 1 rI [])),(22,none)] [(0,true)]) (qr eW))
  ·obtain rfl:=so h
   exact qk (rq hC [] [6,7,8,47,48] [(6,ms 20 g4 1 rI x2),(7,vI x9),(8,vB true)] [] [] (qw (lk hC [.ren 6 20 0] [6] [(6,ms 0 1 1 rI x2)] [(0,some (ar 3 1 1 rI x2)),(20,none)] [(0,true)]) (qr eW)))
theorem yG{loop}{p}{r}(h:lI n loop p=some r):PQ G 237 [V.agg (aAA loop),vM rI p] (V.tup [vI r.1,vI r.2]):=by
 unfold lI at h
 refine pq aN Tryz.func237 rfl fun w X hC=> ?_
 refine rq hC [.z (.b (true))] [2,4,5] [(2,V.tp (zP loop))] [] [] ?_
 obtain⟨x1,hx1,x2,hx2,h⟩:=dI h
 refine rq hC [oR aB hx1,oV (mM G hx2)] [6,12,13,14,15,16,17] [(6,vI x2)] [] [] ?_
 obtain⟨x3,hx3,x4,hx4,h⟩:=dI h
 refine rq hC [oR aB hx3,oV (mM G hx4)] [7,18,19,20,21,22,23] [(7,vI x4)] [] [] (qs (rq hC [] [8] [(8,vI 1)] [] [] (qb (jC h (fun x_=>aZ [(1,vM rI p),(2,V.tp (zP loop)),(6,vI x_.1),(7,vI x4),(8,vI x_.2)] [] []) lS ?_))))
 rintro again7 ⟨x5,x6⟩ h
 refine qs (rq hC [oN aB loop.lo] (fr 24 5) [(28,vB (decide (x6<(loop.lo.length:Int))))] [] [] (aQ h (fun c1 h=> ?_) (fun c1 h=> ?_)))
 ·refine qk (vj h (fun x_=>aZ [(1,vM rI p),(2,V.tp (zP loop)),(6,vI x_),(7,vI x4),(8,vI x6)] [] []) (fun j8 h=> ?_) (fun x11 h=> ?_))
  ·
   refine qb ?_
   obtain⟨x9,hx9,x10,hx10,h⟩:=dI h
   refine rq hC [oR aB hx9,oV (mM G hx10)] [9,31,32,33,34,35,36,37] [(9,vI x10)] [] [] (rq hC [] [38,39,40] [(40,vB (decide (x5<x10)))] [] [] (aQ h (fun c2 h=> ?_) (fun c2 h=> ?_)))
   ·exact rk hC [] [6,41] [(6,vI x10)] [] [] (lE h)
   ·exact qk (lE h)
  ·exact rk hC [] [8,29,30] [(8,vI (wr (x6+1)))] [] [] (lE h)
 ·refine dA (qs (rq hC [] [10] [(10,vI 1)] [] [] (qb (jC h (fun x_=>aZ [(1,vM rI p),(2,V.tp (zP loop)),(6,vI x5),(7,vI x_.1),(10,vI x_.2)] [] []) lS ?_))))
  rintro again14 ⟨x12,x13⟩ h
  refine qs (rq hC [oN aB loop.hi] (fr 42 5) [(46,vB (decide (x13<(loop.hi.length:Int))))] [] [] (aQ h (fun c3 h=> ?_) (fun c3 h=> ?_)))
  ·refine qk (vj h (fun x_=>aZ [(1,vM rI p),(2,V.tp (zP loop)),(6,vI x5),(7,vI x_),(10,vI x13)] [] []) (fun j15 h=> ?_) (fun x18 h=> ?_))
   ·
    refine qb ?_
    obtain⟨x16,hx16,x17,hx17,h⟩:=dI h
    refine rq hC [oR aB hx16,oV (mM G hx17)] [11,49,50,51,52,53,54,55] [(11,vI x17)] [] [] (rq hC [] [56,57,58] [(58,vB (decide (x17<x12)))] [] [] (aQ h (fun c4 h=> ?_) (fun c4 h=> ?_)))
    ·exact rk hC [] [7,59] [(7,vI x17)] [] [] (lE h)
    ·exact qk (lE h)
   ·exact rk hC [] [10,47,48] [(10,vI (wr (x13+1)))] [] [] (lE h)
  ·obtain rfl:=so h
   exact dA (rq hC [] [4,5,60,61] [(4,vI x5),(5,vI x12)] [] [] (qr eR))
theorem aBQ(G:GS): ∀(n:Nat) (nest:List Loop) (p:List Int) (most:Int) {r:Int} (h:s_l2Work n nest p most=some r),PQ G 272 [vM aD nest,vM rI p,vI most] (vI r):=by
 intro n
 induction n with
 |zero=>intro nest p most r h;rw [s_l2Work.eq_def] at h;cases h
 |succ n ih=>
  intro nest p most r h
  rw [s_l2Work.eq_def] at h;dsimp only at h
  refine pq aN Tryz.func272 rfl fun w X hC=> ?_
  refine rq hC [] [6] [] [] [] (rq hC [] [7] [(7,vI 1)] [] [] (qs (rq hC [oN rI p,oN aD nest] (fr 11 5) [(15,vB (decide ((p.length:Int)=(nest.length:Int))))] [] [] (aQ h (fun c1 h=> ?_) (fun c1 h=> ?_)))))
  ·obtain rfl:=so h
   exact rq hC [] [6,16] [(6,vI 1)] [] [] (qr eR)
  ·refine qk ?_
   obtain⟨x1,hx1,x2,hx2,h⟩:=dI h
   refine rq hC [oN rI p,oR aD hx1,oV (yG G hx2)] [8,9,17,18,19,20,21,22,23,24,25,26] [(8,vI x2.1),(9,vI x2.2)] [] [] (qs (rq hC [] [10,27] [(10,vI x2.1)] [] [] (qb (jC h (fun x_=>aZ [(0,vM aD nest),(1,vM rI p),(2,vI most),(7,vI x_.1),(9,vI x2.2),(10,vI x_.2)] [] []) lS ?_))))
   rintro again5 ⟨x3,x4⟩ h
   refine qs (vj h (fun x_=>aZ [(0,vM aD nest),(1,vM rI p),(2,vI most),(7,vI x3),(9,vI x2.2),(10,vI x4),(35,vB x_)] [] []) (fun j6 h=> ?_) (fun x7 h=> ?_))
   ·
    refine aP h (fun c2 h=> ?_) (fun c2 h=> ?_)
    ·exact rk hC (rF 4 c2) (fr 28 8) [(35,vB false)] [] [] (lE h)
    ·exact rk hC (rT 4 c2) (fr 28 8) [(35,vB (decide (x3≤most)))] [] [] (lE h)
   ·refine aQ h (fun c3 h=> ?_) (fun c3 h=> ?_)
    ·refine qk (qs (qb ?_))
     obtain⟨x8,hx8,x9,hx9,x10,hx10,h⟩:=lR h
     exact rk hC [.z (.nat 20),oA (aT rI hx8),.z (.int 0),oQ (cL (r:=rI) 1 (fun _=>rfl) []),oQ (cL (r:=rI) 1 (fun _=>rfl) p),oA (aT rI hx9),.z (.b (true)),oQ (cL (r:=rI) 1 (fun _=>rfl) x8),oQ (cL (r:=rI) 1 (fun _=>rfl) [x4]),oV (ih nest x9 (wr (most-x3)) hx10)] [7,38,39,40,41,42,43,44,45,46,47,48,49,50] [(7,vI (wr (x3+x10)))] [(20,some (ar 3 3 1 rI x9))] [(20,true)] (rk hC [] [10,36,37] [(10,vI (wr (x4+1)))] [] [] (lE h))
    ·obtain rfl:=so h
     exact dA (rq hC [] [6,51] [(6,vI x3)] [] [] (qr eR))
theorem vX(G:GS): ∀(n:Nat) (out:List (List Int)) (outG:Nat) (nest:List Loop) (p:List Int) {r:(List (List Int))} (h:s_l2Points n out nest p=some r),VQ G 168 [ar 27 outG 1 (rL rI) out] [ms 0 outG 1 (rL rI) out,vM aD nest,vM rI p] (ms 0 (outG+1) 1 (rL rI) r) [ar 27 (outG+1) 1 (rL rI) r]:=by
 intro n
 induction n with
 |zero=>intro out outG nest p r h;rw [s_l2Points.eq_def] at h;cases h
 |succ n ih=>
  intro out outG nest p r h
  rw [s_l2Points.eq_def] at h;dsimp only at h
  refine vq aN Tryz.func168 rfl fun w X β0 hC hg=> ?_
  refine rq hC [] [6] [] [] [] (qs (rq hC [oN rI p,oN aD nest] (fr 10 5) [(14,vB (decide ((p.length:Int)=(nest.length:Int))))] [] [] (aQ h (fun c1 h=> ?_) (fun c1 h=> ?_))))
  ·obtain⟨x1,hx1,x2,hx2,h⟩:=dI h
   obtain rfl:=so h
   exact rq hC [.z (.nat 20),oA (aT rI hx1),.z (.at 3),.z (.fz 20 [18] []),.z (.int 0),oQ (cL (r:=rI) 1 (fun _=>rfl) []),oQ (cL (r:=rI) 1 (fun _=>rfl) p),oA (aT (rL rI) hx2),oQ (cL (r:=(rL rI)) 1 (fun _=>rfl) out),oQ (cL (r:=(rL rI)) 1 (fun _=>rfl) [x1])] [0,6,15,16,17,18,19,20] [(6,ms 0 (outG+1) 1 (rL rI) x2)] [(20,none),(0,some (ar 27 (outG+1) 1 (rL rI) x2))] [(20,true)] (qw (sD 6 0 outG (outG+1) 1 0 (List.map (rL rI) x2).length (e:= .arr 27 (outG+1) 1 (List.map (rL rI) x2)) rfl (by kernel_rfl) (by kernel_rfl) rfl rfl hg.1) (qr eW))
  ·refine qk ?_
   obtain⟨x3,hx3,x4,hx4,h⟩:=dI h
   refine rq hC [oN rI p,oR aD hx3,oV (yG G hx4)] [7,8,21,22,23,24,25,26,27,28,29,30] [(7,vI x4.1),(8,vI x4.2)] [] [] (qs (rq hC [] [9,31] [(9,vI x4.1)] [] [] (qb (bJ (γ:=Nat) h (fun x_ g_=>aZ [(0,ms 0 g_ 1 (rL rI) x_.1),(1,vM aD nest),(2,vM rI p),(8,vI x4.2),(9,vI x_.2)] [(0,ar 27 g_ 1 (rL rI) x_.1)] [0]) outG (lS) ?_))))
   rintro again8 ⟨x5,x6⟩ g7 h
   refine qs (vj h (fun x_=>aZ [(0,ms 0 g7 1 (rL rI) x5),(1,vM aD nest),(2,vM rI p),(8,vI x4.2),(9,vI x6),(39,vB x_)] [(0,ar 27 g7 1 (rL rI) x5)] [0]) (fun j9 h=> ?_) (fun x10 h=> ?_))
   ·
    refine aP h (fun c2 h=> ?_) (fun c2 h=> ?_)
    ·exact rk hC (rF 4 c2) (fr 32 8) [(39,vB false)] [] [] (lE h)
    ·exact rk hC [oT c2,oT c2,oN (rL rI) x5,oT c2,oT c2] (fr 32 8) [(39,vB (decide ((x5.length:Int)≤120)))] [] [] (lE h)
   ·refine aQ h (fun c3 h=> ?_) (fun c3 h=> ?_)
    ·refine qk (qs (qb ?_))
     obtain⟨x11,hx11,x12,hx12,x13,hx13,h⟩:=lR h
     exact rk hC [.z (.nat 20),oA (aT rI hx11),.z (.int 0),oQ (cL (r:=rI) 1 (fun _=>rfl) []),oQ (cL (r:=rI) 1 (fun _=>rfl) p),oA (aT rI hx12),.z (.at 2),.z (.fz 20 [49] []),oQ (cL (r:=rI) 1 (fun _=>rfl) x11),oQ (cL (r:=rI) 1 (fun _=>rfl) [x6]),oC [0] [] (ih x5 g7 nest x12 hx13)] [0,42,43,44,45,46,47,48,49,50] [(0,ms 0 (g7+1) 1 (rL rI) x13)] [(20,none),(0,some (ar 27 (g7+1) 1 (rL rI) x13))] [(20,true),(0,true)] (rk hC [] [9,40,41] [(9,vI (wr (x6+1)))] [] [] ⟨(x13,wr (x6+1)),(g7+1),h,lS⟩)
    ·obtain rfl:=so h
     exact dA (rq hC [] [6,51] [(6,ms 0 g7 1 (rL rI) x5)] [] [] (qw (sD 6 0 outG g7 1 0 (List.map (rL rI) x5).length (e:= .arr 27 g7 1 (List.map (rL rI) x5)) rfl (by kernel_rfl) (by kernel_rfl) rfl rfl hg.1) (qr eW)))
theorem uD{list}{depth}{r}(h:nT n list depth=some r):PQ G 305 [vM aB list,vI depth] (vB r):=by
 unfold nT at h
 refine pq aN Tryz.func305 rfl fun w X hC=> ?_
 refine rq hC [] [4] [] [] [] (qs (rq hC [] [5] [(5,vI 0)] [] [] (qb (jC h (fun x_=>aZ [(0,vM aB list),(1,vI depth),(5,vI x_)] [] []) lS ?_))))
 rintro again2 x1 h
 refine qs (rq hC [oN aB list] (fr 6 4) [(9,vB (decide (x1<(list.length:Int))))] [] [] (aQ h (fun c1 h=> ?_) (fun c1 h=> ?_)))
 ·refine qk (qs (qb (vj h (fun x_=>aZ [(0,vM aB list),(1,vI depth),(5,vI x1),(26,vB x_)] [] []) (fun j3 h=> ?_) (fun x7 h=> ?_))))
  ·
   obtain⟨x4,hx4,x5,hx5,h⟩:=dI h
   refine aP h (fun c2 h=> ?_) (fun c2 h=> ?_)
   ·obtain⟨x6,hx6,h⟩:=bd h
    exact rk hC ([oR aB hx4,oV (dD G hx5)]++rF 3 c2++[oR aB hx4,oF c2,oF c2,oV (rN G hx6)]++rF 3 c2) (fr 12 15) [(26,vB (decide (depth<x6)))] [] [] (lE h)
   ·exact rk hC ([oR aB hx4,oV (dD G hx5)]++rT 8 c2) (fr 12 15) [(26,vB true)] [] [] (lE h)
  ·refine aQ h (fun c3 h=> ?_) (fun c3 h=> ?_)
   ·obtain rfl:=so h
    exact rq hC [] [4] [(4,vB false)] [] [] (qr eR)
   ·exact qk (rk hC [] [5,10,11] [(5,vI (wr (x1+1)))] [] [] (lE h))
 ·refine dA (vj h (fun x_=>aZ [(4,vB x_)] [] []) (fun j8 h=> ?_) (fun x9 h=> ?_))
  ·
   refine aP h (fun c4 h=> ?_) (fun c4 h=> ?_)
   ·exact rk hC ([oN aB list]++rF 4 c4) [4,27,28,29,30,31,32,33,34] [(4,vB false)] [] [] (lE h)
   ·exact rk hC [oN aB list,oT c4,oT c4,oN aB list,oT c4,oT c4] [4,27,28,29,30,31,32,33,34] [(4,vB (decide ((list.length:Int)≤2)))] [] [] (lE h)
  ·obtain rfl:=so h
   exact qr eR
theorem tJ{nest}{r}(h:kE n nest=some r):PQ G 271 [vM aD nest] (vB r):=by
 unfold kE at h
 refine pq aN Tryz.func271 rfl fun w X hC=> ?_
 refine rq hC [] [2] [] [] [] (qs (rq hC [] [3] [(3,vI 0)] [] [] (qb (jC h (fun x_=>aZ [(0,vM aD nest),(3,vI x_)] [] []) lS ?_))))
 rintro again2 x1 h
 refine qs (vj h (fun x_=>aZ [(0,vM aD nest),(3,vI x1),(12,vB x_)] [] []) (fun j3 h=> ?_) (fun x4 h=> ?_))
 ·
  refine aP h (fun c1 h=> ?_) (fun c1 h=> ?_)
  ·exact rk hC ([oN aD nest]++rF 4 c1) (fr 4 9) [(12,vB false)] [] [] (lE h)
  ·exact rk hC [oN aD nest,oT c1,oT c1,oN aD nest,oT c1,oT c1] (fr 4 9) [(12,vB (decide ((nest.length:Int)≤4)))] [] [] (lE h)
 ·refine aQ h (fun c2 h=> ?_) (fun c2 h=> ?_)
  ·refine qk (qs (qb (vj h (fun x_=>aZ [(0,vM aD nest),(3,vI x1),(32,vB x_)] [] []) (fun j5 h=> ?_) (fun x9 h=> ?_))))
   ·
    obtain⟨x6,hx6,x7,hx7,h⟩:=dI h
    refine aP h (fun c3 h=> ?_) (fun c3 h=> ?_)
    ·obtain⟨x8,hx8,h⟩:=bd h
     exact rk hC ([oR aD hx6,oV (uD G hx7)]++rF 3 c3++[oR aD hx6]++rF 4 c3++[oV (uD G hx8),oF c3,oF c3]) (fr 15 18) [(32,vB (!x8))] [] [] (lE h)
    ·exact rk hC ([oR aD hx6,oV (uD G hx7)]++rT 9 c3) (fr 15 18) [(32,vB true)] [] [] (lE h)
   ·refine aQ h (fun c4 h=> ?_) (fun c4 h=> ?_)
    ·obtain rfl:=so h
     exact rq hC [] [2] [(2,vB false)] [] [] (qr eR)
    ·exact qk (rk hC [] [3,13,14] [(3,vI (wr (x1+1)))] [] [] (lE h))
  ·obtain rfl:=so h
   exact dA (rq hC [oN aD nest] [2,33,34,35] [(2,vB (decide ((nest.length:Int)≤4)))] [] [] (qr eR))
theorem H3{nest}{r}(h:iN n nest=some r):VQ G 223 [] [vM aD nest] (V.tup [ms 0 1 1 (rL rI) r.1,vB r.2]) [ar 27 1 1 (rL rI) r.1]:=by
 unfold iN at h
 refine vq aN Tryz.func223 rfl fun w X β0 hC hg=> ?_
 refine rq hC [] [2,3] [] [] [] (qs (vj h (fun x_=>aZ [(0,vM aD nest),(12,vB x_)] [] []) (fun j1 h=> ?_) (fun x4 h=> ?_)))
 ·
  obtain⟨x2,hx2,h⟩:=bd h
  refine aP h (fun c1 h=> ?_) (fun c1 h=> ?_)
  ·obtain⟨x3,hx3,h⟩:=bd h
   exact rk hC [oV (tJ G hx2),oF c1,oF c1,oV (aBQ G n nest [] 1200 hx3),oF c1,oF c1] (fr 5 8) [(12,vB (decide ((1200:Int)<x3)))] [] [] (lE h)
  ·exact rk hC ([oV (tJ G hx2)]++rT 4 c1) (fr 5 8) [(12,vB true)] [] [] (lE h)
 ·refine aQ h (fun c2 h=> ?_) (fun c2 h=> ?_)
  ·obtain rfl:=so h
   exact rq hC [.z (.nat 20)] [2,3,13] [(2,ms 20 1 1 (rL rI) []),(3,vB false)] [(20,some (ar 27 1 1 (rL rI) []))] [(20,true)] (qw (lk hC [.ren 2 20 0] [2] [(2,ms 0 1 1 (rL rI) [])] [(0,some (ar 27 1 1 (rL rI) [])),(20,none)] [(0,true)]) (qr eW))
  ·refine qk ?_
   obtain⟨x5,hx5,h⟩:=bd h
   refine rq hC [.z (.nat 20),oC [20] [] (vX G n [] 1 nest [] hx5)] [4,14,15,16] [(4,ms 20 2 1 (rL rI) x5)] [(20,some (ar 27 2 1 (rL rI) x5))] [(20,true),(20,true)] (qs (rq hC [oN (rL rI) x5] [17,18,19] [(19,vB (decide ((120:Int)<(x5.length:Int))))] [] [] (aQ h (fun c3 h=> ?_) (fun c3 h=> ?_))))
   ·obtain rfl:=so h
    exact rq hC [.z (.nat 21)] [2,3,20] [(2,ms 21 1 1 (rL rI) []),(3,vB false)] [(21,some (ar 27 1 1 (rL rI) []))] [(21,true)] (qw (lk hC [.ren 2 21 0] [2] [(2,ms 0 1 1 (rL rI) [])] [(0,some (ar 27 1 1 (rL rI) [])),(21,none)] [(0,true)]) (qr eW))
   ·obtain rfl:=so h
    exact qk (rq hC [] [2,3,21] [(2,ms 20 2 1 (rL rI) x5),(3,vB true)] [] [] (qw (lk hC [.ren 2 20 0] [2] [(2,ms 0 1 1 (rL rI) x5)] [(0,some (ar 27 1 1 (rL rI) x5)),(20,none)] [(0,true)]) (qr eW)))
theorem uC{list}{part}{r}(h:lX n list part=some r):PQ G 156 [vM aV list,V.agg (aHd part)] (V.tup [vI r.1,vB r.2]):=by
 unfold lX at h
 refine pq aN Tryz.func156 rfl fun w X hC=> ?_
 refine rq hC [.z (.b (true))] [3,4,5] [(3,V.tp (qH part))] [] [] ?_
 obtain⟨x1,hx1,h⟩:=bd h
 refine rq hC [oC [] [20] (H3 G hx1)] [6,7,13,14,15,16,17,18] [(6,ms 20 1 1 (rL rI) x1.1),(7,vB x1.2)] [(20,some (ar 27 1 1 (rL rI) x1.1))] [(20,true)] (qs (vj h (fun x_=>aZ [(0,vM aV list),(3,V.tp (qH part)),(6,ms 20 1 1 (rL rI) x1.1),(32,vB x_)] [(20,ar 27 1 1 (rL rI) x1.1)] [20]) (fun j2 h=> ?_) (fun x3 h=> ?_)))
 ·
  refine aP h (fun c1 h=> ?_) (fun c1 h=> ?_)
  ·refine aP h (fun c2 h=> ?_) (fun c2 h=> ?_)
   ·exact rk hC (rF 3 c1++[oN bB part.body,oF c1,oF c1]++rF 3 c2++[oN bB part.body,oF c2,oF c2]) (fr 19 14) [(32,vB (decide ((4:Int)<(part.body.length:Int))))] [] [] (lE h)
   ·exact rk hC (rF 3 c1++[oN bB part.body,oF c1,oF c1]++rT 5 c2) (fr 19 14) [(32,vB true)] [] [] (lE h)
  ·exact rk hC (rT 5 c1++sT 5) (fr 19 14) [(32,vB true)] [] [] (lE h)
 ·refine aQ h (fun c3 h=> ?_) (fun c3 h=> ?_)
  ·obtain rfl:=so h
   exact rq hC [] [4,5] [(4,vI 0),(5,vB false)] [] [] (qr eR)
  ·refine qk (qs (rq hC [] [8] [(8,vI 0)] [] [] (qb (jC h (fun x_=>aZ [(0,vM aV list),(3,V.tp (qH part)),(6,ms 20 1 1 (rL rI) x1.1),(8,vI x_)] [(20,ar 27 1 1 (rL rI) x1.1)] [20]) lS ?_))))
   rintro again5 x4 h
   refine qs (rq hC [oN bB part.body] (fr 33 5) [(37,vB (decide (x4<(part.body.length:Int))))] [] [] (aQ h (fun c4 h=> ?_) (fun c4 h=> ?_)))
   ·refine qk (qs (qb (qs (qs ?_))))
    obtain⟨x6,hx6,x7,hx7,h⟩:=dI h
    refine dk hC bK [oR bB hx6,oN aD part.nest,oV (nH G hx7)] (fr 40 10) [(49,vB (!x7))] [] [] (aQ h (fun c5 h=> ?_) (fun c5 h=> ?_))
    ·obtain rfl:=so h
     exact rq hC [] [4,5] [(4,vI 0),(5,vB false)] [] [] (qr eR)
    ·refine qk (rq hC [] [9] [(9,vI 0)] [] [] (qb (jC h (fun x_=>aZ [(0,vM aV list),(3,V.tp (qH part)),(6,ms 20 1 1 (rL rI) x1.1),(8,vI x4),(9,vI x_)] [(20,ar 27 1 1 (rL rI) x1.1)] [20]) lS ?_)))
     rintro again9 x8 h
     refine qs (rq hC [oN (rL rI) x1.1] (fr 50 4) [(53,vB (decide (x8<(x1.1.length:Int))))] [] [] (aQ h (fun c6 h=> ?_) (fun c6 h=> ?_)))
     ·refine qk (qs (qb (qs ?_)))
      obtain⟨x10,hx10,x11,hx11,h⟩:=dI h
      refine dk hC bK [oR bB hx6,oQ (kQ (rL rI) hx10),oX (rL rI) hx10,oC [] [21] (yE G hx11)] [10,11,12,56,57,58,59,60,61,62,63,64,65,66,67,68,69,70] [(12,vB x11.2.2)] [(21,some (ar 3 1 1 rI x11.1))] [(21,true)] (vj h (fun x_=>aZ [(0,vM aV list),(3,V.tp (qH part)),(6,ms 20 1 1 (rL rI) x1.1),(8,vI x4),(9,vI x8),(80,vB x_)] [(20,ar 27 1 1 (rL rI) x1.1),(21,ar 3 1 1 rI x11.1)] [20,21]) (fun j12 h=> ?_) (fun x14 h=> ?_))
      ·
       refine aP h (fun c7 h=> ?_) (fun c7 h=> ?_)
       ·obtain⟨x13,hx13,h⟩:=bd h
        exact rk hC (rF 3 c7++[oQ (kQ (rL rI) hx10),oF c7,oX (rL rI) hx10,oF c7,oV (aAs G hx13),oF c7,oF c7]) (fr 71 10) [(80,vB (!x13))] [] [] (lE h)
       ·exact rk hC (rT 7 c7) (fr 71 10) [(80,vB true)] [] [] (lE h)
      ·refine aQ h (fun c8 h=> ?_) (fun c8 h=> ?_)
       ·obtain rfl:=so h
        exact rq hC [] [4,5] [(4,vI 0),(5,vB false)] [] [] (qr eR)
       ·exact qk (rk hC [] [9,54,55] [(9,vI (wr (x8+1)))] [] [] (lE h))
     ·exact dA (rk hC [] [8,38,39] [(8,vI (wr (x4+1)))] [] [] (lE h))
   ·obtain rfl:=so h
    exact dA (rq hC [oN (rL rI) x1.1,oN bB part.body] [4,5,81,82,83,84,85,86] [(4,vI (wr ((x1.1.length:Int)*(part.body.length:Int)))),(5,vB true)] [] [] (qr eR))
theorem aBN{r_a0}{r}(h:qU n r_a0=some r):VQ G 176 [eL r_a0] [V.ref 0 0] (V.agg (aHd r.1)) [eL r.2]:=by
 unfold qU at h
 refine vq aN Tryz.func176 rfl fun w X β0 hC hg=> ?_
 refine rq hC [.z (.nat 20)] [2] [(2,V.ref 20 0)] [(20,sc [V.t T.nilS,V.t T.nilS])] [(20,true)] (qs (rq hC [] [3] [(3,vI 0)] [] [] (qb (jC h (fun x_=>aZ [(0,V.ref 0 0),(2,V.ref 20 0),(3,vI x_.2.2)] [(0,E.cells [vM rY x_.1,vI x_.2.1]),(20,E.cells [V.t T.nilS,V.t T.nilS])] [0,20]) lS ?_))))
 rintro again4 ⟨x1,x2,x3⟩ h
 refine qs (rq hC [] [16,17] [(17,vB (decide (x3<4)))] [] [] (aQ h (fun c1 h=> ?_) (fun c1 h=> ?_)))
 ·refine qk (qs (qb ?_))
  obtain⟨x5,hx5,h⟩:=bd h
  refine rq hC [oC [0] [21] (aBR G hx5),.z (.nat 22)] [4,20,21,22] [(4,V.ref 22 0)] [(21,some (ar 147 1 2 aD x5.1)),(0,sR x5.2),(22,sc [ms 21 1 2 aD x5.1,V.t T.nilS])] [(0,true),(21,true),(22,true)] (qs ?_)
  obtain⟨x6,hx6,h⟩:=bd h
  refine rq hC [.z (.int 0),oC [0] [] (aX G hx6)] [5,23,24,25] [(5,vI x6.1)] [(0,sR x6.2)] [(0,true)] (qb (qw (lk hC [.fz 21 [] [22]] [] [] [(22,sc [vM aD x5.1,V.t T.nilS]),(21,none)] []) (qw (lk hC [.growc 22 1 23 114] [] [] [(23,some (ar 114 1 9 bB [])),(22,sc [vM aD x5.1,ms 23 1 9 bB []])] [(23,true)]) (bJ (γ:=Nat) h (fun x_ g_=>aZ [(0,V.ref 0 0),(2,V.ref 20 0),(3,vI x3),(4,V.ref 22 0),(5,vI x_.2.2.2.2)] [(0,E.cells [vM rY x_.1,vI x_.2.1]),(20,E.cells [V.t T.nilS,V.t T.nilS]),(22,E.cells [vM aD x_.2.2.1,ms 23 g_ 9 bB x_.2.2.2.1]),(23,ar 114 g_ 9 bB x_.2.2.2.1)] [0,20,21,22,23]) 1 (lS) ?_))))
  rintro again13 ⟨x7,x8,x9,x10,x11⟩ g12 h
  refine qs (rq hC [] [26,27] [(27,vB (decide ((0:Int)<x11)))] [] [] (aQ h (fun c2 h=> ?_) (fun c2 h=> ?_)))
  ·refine qk ?_
   obtain⟨j14,hj14,h⟩:=yU h
   refine jE (γ:=Nat) (j:=j14) (r:=r) (fun x_ g_=>aZ [(0,V.ref 0 0),(2,V.ref 20 0),(3,vI x3),(4,V.ref 22 0),(5,vI x11)] [(0,E.cells [vM rY x_.1,vI x_.2.1]),(20,E.cells [V.t T.nilS,V.t T.nilS]),(22,E.cells [vM aD x9,ms 23 g_ 9 bB x_.2.2]),(23,ar 114 g_ 9 bB x_.2.2)] [0,20,21,22,23]) ?_ ?_
   ·
    refine qb (rq hC [] [6] [(6,vI 0)] [] [] (qb (jC h (fun x_=>aZ [(0,V.ref 0 0),(2,V.ref 20 0),(3,vI x3),(4,V.ref 22 0),(5,vI x11),(6,vI x_.2.2)] [(0,E.cells [vM rY x_.1,vI x_.2.1]),(20,E.cells [V.t T.nilS,V.t T.nilS]),(22,E.cells [vM aD x9,ms 23 g12 9 bB x10]),(23,ar 114 g12 9 bB x10)] [0,20,21,22,23]) lS ?_)))
    rintro again18 ⟨x15,x16,x17⟩ h
    refine qs (rq hC [] [30,31] [(31,vB (decide (x17<5)))] [] [] (aQ h (fun c3 h=> ?_) (fun c3 h=> ?_)))
    ·refine qk (qs (qb ?_))
     obtain⟨x19,hx19,h⟩:=bd h
     refine rq hC [oN aD x9,oC [0] [] (aBP G hx19),.z (.nat 24)] [7,34,35,36,37,38] [(7,V.ref 24 0)] [(0,sR x19.2),(24,some (E.cells (eO x19.1)))] [(0,true),(24,true)] (qs ?_)
     obtain⟨x20,hx20,x21,hx21,h⟩:=dI h
     refine dk hC bK [oV (pK G n hx20),.z (.int 1),.z (.nat 25),.z (.at 7),.z (.fz 25 [44] []),oV (uC G hx21)] [8,9,39,40,41,42,43,44,45,46,47,48] [(9,vB x21.2)] [(25,none)] [(25,true)] (rq hC [] [49] [(49,vB x21.2)] [] [] (aQ h (fun c4 h=> ?_) (fun c4 h=> ?_)))
     ·obtain⟨x22,hx22,h⟩:=bd h
      exact rq hC [.z (.int 0),oA (aT bB hx22),oQ (cL (r:=bB) 9 sN x10),oQ (cL (r:=bB) 9 sN [x19.1])] (fr 50 6) [] [(23,some (ar 114 (g12+1) 9 bB x22)),(22,sc [vM aD x9,ms 23 (g12+1) 9 bB x22])] [] (dA ⟨(x19.2.b,x19.2.p,x22),(g12+1),h,lS⟩)
     ·exact qk (rk hC [] [6,32,33] [(6,vI (wr (x17+1)))] [] [] (lE h))
    ·exact dA ⟨(x15,x16,x10),g12,h,lS⟩
   ·rintro⟨x23,x24,x25⟩ g26 h
    subst hj14
    exact rk hC [] [5,28,29] [(5,vI (wr (x11-1)))] [] [] ⟨(x23,x24,x9,x25,wr (x11-1)),g26,h,lS⟩
  ·refine dA (qs ?_)
   obtain⟨x27,hx27,x28,hx28,h⟩:=dI h
   refine dk hC bK [oV (pK G n hx27),.z (.at 7),.z (.fz 23 [] [22]),oV (uC G hx28)] [10,11,56,57,58,59,60,61] [(10,vI x28.1),(11,vB x28.2)] [(22,sc [vM aD x9,vM bB x10]),(23,none)] [] (vj h (fun x_=>aZ [(0,V.ref 0 0),(2,V.ref 20 0),(3,vI x3),(4,V.ref 22 0),(66,vB x_)] [(0,E.cells [vM rY x7,vI x8]),(20,E.cells [V.t T.nilS,V.t T.nilS]),(22,E.cells [vM aD x9,vM bB x10])] [0,20,21,22,23]) (fun j29 h=> ?_) (fun x30 h=> ?_))
   ·
    refine aP h (fun c5 h=> ?_) (fun c5 h=> ?_)
    ·exact rk hC (rF 3 c5) (fr 62 5) [(66,vB false)] [] [] (lE h)
    ·exact rk hC (rT 3 c5) (fr 62 5) [(66,vB (decide (x28.1≤40)))] [] [] (lE h)
   ·refine aQ h (fun c6 h=> ?_) (fun c6 h=> ?_)
    ·obtain rfl:=so h
     exact rq hC [] [67] [] [(20,sc [vM aD x9,vM bB x10])] [] (qr eW)
    ·exact qk (rk hC [] [3,18,19] [(3,vI (wr (x3+1)))] [] [] (lE h))
 ·refine dA ?_
  obtain⟨x31,hx31,h⟩:=bd h
  refine rq hC [oV (J8 G hx31),.z (.nat 21)] [12,13,68,69,70,71] [(12,V.ref 21 0)] [(21,some (E.cells (eO x31.1)))] [(21,true)] ?_
  obtain⟨x32,hx32,h⟩:=bd h
  obtain rfl:=so h
  exact rq hC [.z (.int 0),oC [] [22] (aAw G hx32)] [14,15,72,73,74,75,76] [(14,ms 22 1 2 aD x32.1)] [(22,some (ar 147 1 2 aD x32.1))] [(22,true)] (rq hC [.z (.int 1),.z (.nat 23)] (fr 77 4) [] [(23,some (ar 114 1 9 bB [x31.1])),(20,sc [ms 22 1 2 aD x32.1,ms 23 1 9 bB [x31.1]])] [(23,true)] (qw (lk hC [.fz 22 [14] [20]] [14] [(14,vM aD x32.1)] [(20,sc [vM aD x32.1,ms 23 1 9 bB [x31.1]]),(22,none)] []) (qw (lk hC [.fz 23 [] [20]] [] [] [(20,sc [vM aD x32.1,vM bB [x31.1]]),(23,none)] []) (qr eW))))
theorem vW{list}{r}(h:lZ n list=some r):PQ G 155 [vM aV list] (vB r):=by
 unfold lZ at h
 refine pq aN Tryz.func155 rfl fun w X hC=> ?_
 refine rq hC [] [2] [] [] [] (qs (rq hC [] [3] [(3,vI 0)] [] [] (qb (jC h (fun x_=>aZ [(0,vM aV list),(3,vI x_)] [] []) lS ?_))))
 rintro again2 x1 h
 refine qs (rq hC [oN aV list] (fr 6 4) [(9,vB (decide (x1<(list.length:Int))))] [] [] (aQ h (fun c1 h=> ?_) (fun c1 h=> ?_)))
 ·refine qk (qs (qb ?_))
  obtain⟨x3,hx3,h⟩:=bd h
  refine rq hC [oR aV hx3,.z (.nat 20)] [4,12,13,14,15] [(4,V.ref 20 0)] [(20,sc [vS x3.name,vM rI x3.dims])] [(20,true)] (qs (vj h (fun x_=>aZ [(0,vM aV list),(3,vI x1),(4,V.ref 20 0),(56,vB x_)] [(20,E.cells [vS x3.name,vM rI x3.dims])] [20]) (fun j4 h=> ?_) (fun x6 h=> ?_)))
  ·
   refine aP h (fun c2 h=> ?_) (fun c2 h=> ?_)
   ·refine aP h (fun c3 h=> ?_) (fun c3 h=> ?_)
    ·refine aP h (fun c4 h=> ?_) (fun c4 h=> ?_)
     ·refine aP h (fun c5 h=> ?_) (fun c5 h=> ?_)
      ·refine aP h (fun c6 h=> ?_) (fun c6 h=> ?_)
       ·exact dk hC bK (rF 4 c2++rF 4 c3++rF 3 c4++rF 9 c5++[oF c4,oF c5,oF c4,eF,eF,eF,oN rI x3.dims,eF,eF]++rF 3 c6++[oN rI x3.dims,oF c6,oF c6]) (fr 16 41) [(56,vB (decide ((2:Int)<(x3.dims.length:Int))))] [] [] (lE h)
       ·exact dk hC bK (rF 4 c2++rF 4 c3++rF 3 c4++rF 9 c5++[oF c4,oF c5,oF c4,eF,eF,eF,oN rI x3.dims,eF,eF]++rT 5 c6) (fr 16 41) [(56,vB true)] [] [] (lE h)
      ·obtain⟨x5,hx5,h⟩:=bd h
       refine aP h (fun c7 h=> ?_) (fun c7 h=> ?_)
       ·refine aP h (fun c8 h=> ?_) (fun c8 h=> ?_)
        ·exact dk hC bK (rF 4 c2++rF 4 c3++rF 3 c4++rT 4 c5++[oR aV hx5]++rT 5 c5++[oF c4,oT c5,oF c4]++rF 3 c7++[oN rI x3.dims,oF c7,oF c7]++rF 3 c8++[oN rI x3.dims,oF c8,oF c8]) (fr 16 41) [(56,vB (decide ((2:Int)<(x3.dims.length:Int))))] [] [] (lE h)
        ·exact dk hC bK (rF 4 c2++rF 4 c3++rF 3 c4++rT 4 c5++[oR aV hx5]++rT 5 c5++[oF c4,oT c5,oF c4]++rF 3 c7++[oN rI x3.dims,oF c7,oF c7]++rT 5 c8) (fr 16 41) [(56,vB true)] [] [] (lE h)
       ·exact dk hC bK (rF 4 c2++rF 4 c3++rF 3 c4++rT 4 c5++[oR aV hx5]++rT 5 c5++[oF c4,oT c5,oF c4]++rT 5 c7++sT 5) (fr 16 41) [(56,vB true)] [] [] (lE h)
     ·exact dk hC bK (rF 4 c2++rF 4 c3++rT 5 c4++sT 10) (fr 16 41) [(56,vB true)] [] [] (lE h)
    ·exact dk hC bK (rF 4 c2++rT 4 c3++sT 15) (fr 16 41) [(56,vB true)] [] [] (lE h)
   ·exact dk hC bK (rT 4 c2++sT 19) (fr 16 41) [(56,vB true)] [] [] (lE h)
  ·refine aQ h (fun c9 h=> ?_) (fun c9 h=> ?_)
   ·obtain rfl:=so h
    exact rq hC [] [2] [(2,vB false)] [] [] (qr eR)
   ·refine qk (rq hC [] [5] [(5,vI 0)] [] [] (qb (jC h (fun x_=>aZ [(0,vM aV list),(3,vI x1),(4,V.ref 20 0),(5,vI x_)] [(20,E.cells [vS x3.name,vM rI x3.dims])] [20]) lS ?_)))
    rintro again8 x7 h
    refine qs (rq hC [oN rI x3.dims] (fr 57 5) [(61,vB (decide (x7<(x3.dims.length:Int))))] [] [] (aQ h (fun c10 h=> ?_) (fun c10 h=> ?_)))
    ·refine qk (qs (qb (vj h (fun x_=>aZ [(0,vM aV list),(3,vI x1),(4,V.ref 20 0),(5,vI x7),(77,vB x_)] [(20,E.cells [vS x3.name,vM rI x3.dims])] [20]) (fun j9 h=> ?_) (fun x11 h=> ?_))))
     ·
      obtain⟨x10,hx10,h⟩:=bd h
      refine aP h (fun c11 h=> ?_) (fun c11 h=> ?_)
      ·exact rk hC ([oR rI hx10]++rF 4 c11++[oR rI hx10]++rF 3 c11) (fr 64 14) [(77,vB (decide ((6:Int)<x10)))] [] [] (lE h)
      ·exact rk hC ([oR rI hx10]++rT 7 c11) (fr 64 14) [(77,vB true)] [] [] (lE h)
     ·refine aQ h (fun c12 h=> ?_) (fun c12 h=> ?_)
      ·obtain rfl:=so h
       exact rq hC [] [2] [(2,vB false)] [] [] (qr eR)
      ·exact qk (rk hC [] [5,62,63] [(5,vI (wr (x7+1)))] [] [] (lE h))
    ·exact dA (rk hC [] [3,10,11] [(3,vI (wr (x1+1)))] [] [] (lE h))
 ·obtain rfl:=so h
  exact dA (rq hC [oN aV list] [2,78,79,80] [(2,vB (decide ((list.length:Int)≤4)))] [] [] (qr eR))
theorem jS{p}{r}(h:dM n p=some r):PQ G 64 [V.agg (cF p)] (vB r):=by
 unfold dM at h
 refine pq aN Tryz.func64 rfl fun w X hC=> ?_
 refine rq hC [.z (.b (true))] [1,2] [(1,V.tp (bT p))] [] [] (qs (vj h (fun x_=>aZ [(1,V.tp (bT p)),(16,vB x_)] [] []) (fun j1 h=> ?_) (fun x3 h=> ?_)))
 ·
  obtain⟨x2,hx2,h⟩:=bd h
  refine aP h (fun c1 h=> ?_) (fun c1 h=> ?_)
  ·exact rk hC ([oV (vW G hx2)]++rF 3 c1++[oN aH p.parts,oF c1,oF c1]) (fr 7 10) [(16,vB (decide ((4:Int)<(p.parts.length:Int))))] [] [] (lE h)
  ·exact rk hC ([oV (vW G hx2)]++rT 5 c1) (fr 7 10) [(16,vB true)] [] [] (lE h)
 ·refine aQ h (fun c2 h=> ?_) (fun c2 h=> ?_)
  ·obtain rfl:=so h
   exact rq hC [] [2] [(2,vB false)] [] [] (qr eR)
  ·refine qk (rq hC [] [3] [(3,vI 0)] [] [] (qs (rq hC [] [4] [(4,vI 0)] [] [] (qb (jC h (fun x_=>aZ [(1,V.tp (bT p)),(3,vI x_.1),(4,vI x_.2)] [] []) lS ?_)))))
   rintro again6 ⟨x4,x5⟩ h
   refine qs (rq hC [oN aH p.parts] (fr 17 5) [(21,vB (decide (x5<(p.parts.length:Int))))] [] [] (aQ h (fun c3 h=> ?_) (fun c3 h=> ?_)))
   ·refine qk (qs (qb (qs ?_)))
    obtain⟨x7,hx7,x8,hx8,h⟩:=dI h
    refine dk hC bK [oR aH hx7,oV (uC G hx8)] [5,6,24,25,26,27,28,29,30,31,32,33,34] [(5,vI x8.1),(6,vB x8.2)] [] [] (qs (rq hC [] [35,36] [(36,vB (!x8.2))] [] [] (aQ h (fun c4 h=> ?_) (fun c4 h=> ?_))))
    ·obtain rfl:=so h
     exact rq hC [] [2] [(2,vB false)] [] [] (qr eR)
    ·exact qk (rk hC [] [3,37,38,39] [(3,vI (wr (x4+x8.1)))] [] [] (rk hC [] [4,22,23] [(4,vI (wr (x5+1)))] [] [] (lE h)))
   ·obtain rfl:=so h
    exact dA (rq hC [] [2,40,41] [(2,vB (decide (x4≤120)))] [] [] (qr eR))
theorem aBL{r_a0}{r}(h:qS n r_a0=some r):VQ G 78 [eL r_a0] [V.ref 0 0] (V.agg (cF r.1)) [eL r.2]:=by
 unfold qS at h
 refine vq aN Tryz.func78 rfl fun w X β0 hC hg=> ?_
 refine rq hC [.z (.nat 20)] [2] [(2,V.ref 20 0)] [(20,sc [V.t T.nilS,V.t T.nilS])] [(20,true)] ?_
 obtain⟨x1,hx1,h⟩:=bd h
 refine rq hC [oV (pK G n hx1),.z (.nat 21)] [3,5,6] [(3,V.ref 21 0)] [(21,sc [vM aV x1,V.t T.nilS])] [(21,true)] (qs ?_)
 obtain⟨x2,hx2,h⟩:=bd h
 refine rq hC [.z (.int 0),oC [0] [] (aX G hx2)] [4,7,8,9] [(4,vI x2.1)] [(0,sR x2.2)] [(0,true)] (qb (qw (lk hC [.growc 21 1 22 128] [] [] [(22,some (ar 128 1 2 aH [])),(21,sc [vM aV x1,ms 22 1 2 aH []])] [(22,true)]) (bJ (γ:=Nat) h (fun x_ g_=>aZ [(0,V.ref 0 0),(2,V.ref 20 0),(3,V.ref 21 0),(4,vI x_.2.2.2)] [(0,E.cells [vM rY x_.1,vI x_.2.1]),(20,E.cells [V.t T.nilS,V.t T.nilS]),(21,E.cells [vM aV x1,ms 22 g_ 2 aH x_.2.2.1]),(22,ar 128 g_ 2 aH x_.2.2.1)] [0,20,21,22]) 1 (lS) ?_)))
 rintro again8 ⟨x3,x4,x5,x6⟩ g7 h
 refine qs (rq hC [] [10,11] [(11,vB (decide ((0:Int)<x6)))] [] [] (aQ h (fun c1 h=> ?_) (fun c1 h=> ?_)))
 ·refine qk (qs (qb ?_))
  obtain⟨x9,hx9,x10,hx10,h⟩:=dI h
  exact dk hC bK [oC [0] [] (aBN G hx9),.z (.int 0),oA (aT aH hx10),oQ (cL (r:=aH) 2 nZ x5),oQ (cL (r:=aH) 2 nZ [x9.1])] (fr 14 7) [] [(0,sR x9.2),(22,some (ar 128 (g7+1) 2 aH x10)),(21,sc [vM aV x1,ms 22 (g7+1) 2 aH x10])] [(0,true)] (rk hC [] [4,12,13] [(4,vI (wr (x6-1)))] [] [] ⟨(x9.2.b,x9.2.p,x10,wr (x6-1)),(g7+1),h,lS⟩)
 ·refine dA (qs ?_)
  obtain⟨x11,hx11,h⟩:=bd h
  refine rq hC [.z (.at 2),.z (.fz 22 [] [21]),oV (jS G hx11)] [21,22] [(22,vB x11)] [(21,sc [vM aV x1,vM aH x5]),(22,none)] [] (aQ h (fun c2 h=> ?_) (fun c2 h=> ?_))
  ·obtain rfl:=so h
   exact rq hC [] [23] [] [(20,sc [vM aV x1,vM aH x5])] [] (qr eW)
  ·refine qk (qs ?_)
   obtain⟨x12,hx12,x13,hx13,h⟩:=dI h
   obtain rfl:=so h
   exact dk hC bK [oV (pK G n hx12),oA (aCh aH hx13),oQ (cL (r:=aH) 2 nZ x5)] (fr 24 5) [] [(20,sc [vM aV x12,vM aH x13])] [] (qr eW)
theorem aBK{r_a0}{m}{r}(h:qP n r_a0 m=some r):VQ G 147 [eL r_a0] [V.ref 0 0,vM rI m] (ms 1 1 1 rI r.1) [eL r.2,ar 3 1 1 rI r.1]:=by
 unfold qP at h
 refine vq aN Tryz.func147 rfl fun w X β0 hC hg=> ?_
 refine rq hC [] [4] [] [] [] ?_
 obtain⟨x1,hx1,h⟩:=bd h
 refine rq hC [.z (.nat 20),oA (aT rI hx1),oQ (cL (r:=rI) 1 (fun _=>rfl) []),oQ (cL (r:=rI) 1 (fun _=>rfl) m)] (fr 5 4) [(5,ms 20 2 1 rI x1)] [(20,some (ar 3 2 1 rI x1))] [(20,true)] ?_
 obtain⟨j2,hj2,h⟩:=yU h
 refine jE (γ:=Nat) (j:=j2) (r:=r) (fun x_ g_=>aZ [(5,ms 20 g_ 1 rI x_.2.2)] [(0,E.cells [vM rY x_.1,vI x_.2.1]),(20,ar 3 g_ 1 rI x_.2.2)] [0,20]) ?_ ?_
 ·
  obtain⟨x3,hx3,h⟩:=bd h
  refine rq hC [oC [0] [] (bD G hx3)] [9,10] [(10,vI x3.1)] [(0,sR x3.2)] [(0,true)] (qb (rq hC [] [11,12] [(11,vB (decide (x3.1=0)))] [] [] (aQ h (fun c1 h=> ?_) (fun c1 h=> ?_))))
  ·obtain⟨x4,hx4,h⟩:=bd h
   exact rk hC [.z (.int 0),oA (aT rI hx4),oQ (cL (r:=rI) 1 (fun _=>rfl) x1),oQ (cL (r:=rI) 1 (fun _=>rfl) [0])] [5,13,14,15] [(5,ms 20 3 1 rI x4)] [(20,some (ar 3 3 1 rI x4))] [] ⟨(x3.2.b,x3.2.p,x4),3,h,lS⟩
  ·refine rq hC [] [16,17] [(16,vB (decide (x3.1=1)))] [] [] (aQ h (fun c2 h=> ?_) (fun c2 h=> ?_))
   ·refine rq hC [oN rI x1] [18,19,20] [(20,vB (decide ((0:Int)<(x1.length:Int))))] [] [] (aQ h (fun c3 h=> ?_) (fun c3 h=> ?_))
    ·obtain⟨x5,hx5,x6,hx6,x7,hx7,h⟩:=lR h
     obtain⟨x8,hx8,h⟩:=bd h
     exact rk hC [oN rI x1,oC [0] [] (bD G hx5),.z (.int 0),oC [0] [] (aX G hx6),oQ (kQ rI hx7),oX rI hx7,.z (.rows (List.map rI x8)),.z (.len 5 (List.map rI x8).length),oQ (str rI hx8),oQ (s7 rI hx8)] [5,21,22,23,24,25,26,27,28,29] [(5,ms 20 2 1 rI x8)] [(0,sR x6.2),(20,some (ar 3 2 1 rI x8))] [(0,true),(0,true)] ⟨(x6.2.b,x6.2.p,x8),2,h,lS⟩
    ·exact qk ⟨(x3.2.b,x3.2.p,x1),2,h,lS⟩
   ·exact qk ⟨(x3.2.b,x3.2.p,x1),2,h,lS⟩
 ·rintro⟨x9,x10,x11⟩ g12 h
  subst hj2
  obtain rfl:=so h
  exact rq hC [] [4,30] [(4,ms 20 g12 1 rI x11)] [] [] (qw (lk hC [.ren 4 20 1] [4] [(4,ms 1 1 1 rI x11)] [(1,some (ar 3 1 1 rI x11)),(20,none)] [(1,true)]) (qr eW))
theorem aAl{p}{r}(h:nP n p=some r):PQ G 167 [V.agg (cF p)] (vI r):=by
 unfold nP at h
 refine pq aN Tryz.func167 rfl fun w X hC=> ?_
 refine rq hC [.z (.b (true))] [1,2] [(1,V.tp (bT p))] [] [] (rq hC [] [3] [(3,vI 0)] [] [] (qs (rq hC [] [4] [(4,vI 0)] [] [] (qb (jC h (fun x_=>aZ [(1,V.tp (bT p)),(3,vI x_.1),(4,vI x_.2)] [] []) lS ?_)))))
 rintro again3 ⟨x1,x2⟩ h
 refine qs (rq hC [oN aV p.arrays] (fr 5 5) [(9,vB (decide (x2<(p.arrays.length:Int))))] [] [] (aQ h (fun c1 h=> ?_) (fun c1 h=> ?_)))
 ·refine qk (qs (qb ?_))
  obtain⟨x4,hx4,x5,hx5,h⟩:=dI h
  exact rk hC [oR aV hx4,oV (G3 G hx5)] [3,12,13,14,15,16,17,18,19] [(3,vI (wr (x1+x5)))] [] [] (rk hC [] [4,10,11] [(4,vI (wr (x2+1)))] [] [] (lE h))
 ·obtain rfl:=so h
  exact dA (rq hC [] [2,20] [(2,vI x1)] [] [] (qr eR))
theorem H5{p}{r}(h:iO n p=some r):PQ G 219 [V.agg (cF p)] (vI r):=by
 unfold iO at h
 refine pq aN Tryz.func219 rfl fun w X hC=> ?_
 refine rq hC [.z (.b (true))] [1,2] [(1,V.tp (bT p))] [] [] (qs ?_)
 obtain⟨x1,hx1,h⟩:=bd h
 refine rq hC [oV (jS G hx1)] [3,4,5] [(5,vB (!x1))] [] [] (aQ h (fun c1 h=> ?_) (fun c1 h=> ?_))
 ·obtain rfl:=so h
  exact rq hC [] [2] [(2,vI 0)] [] [] (qr eR)
 ·refine qk ?_
  obtain⟨x2,hx2,h⟩:=bd h
  obtain rfl:=so h
  exact rq hC [oV (aAl G hx2)] [2,6,7] [(2,vI x2)] [] [] (qr eR)
theorem T7{r_a0}{p}{r}(h:lW n r_a0 p=some r):VQ G 148 [eL r_a0] [V.ref 0 0,V.agg (cF p)] (ms 1 1 1 rI r.1) [eL r.2,ar 3 1 1 rI r.1]:=by
 unfold lW at h
 refine vq aN Tryz.func148 rfl fun w X β0 hC hg=> ?_
 refine rq hC [.z (.b (true))] [3,4] [(3,V.tp (bT p))] [] [] (rq hC [.z (.nat 20)] [5,7] [(5,ms 20 1 1 rI [])] [(20,some (ar 3 1 1 rI []))] [(20,true)] (qs ?_))
 obtain⟨x1,hx1,h⟩:=bd h
 refine rq hC [oV (H5 G hx1)] [6,8,9] [(6,vI x1)] [] [] (qb (bJ (γ:=Nat) h (fun x_ g_=>aZ [(0,V.ref 0 0),(5,ms 20 g_ 1 rI x_.2.2.1),(6,vI x_.2.2.2)] [(0,E.cells [vM rY x_.1,vI x_.2.1]),(20,ar 3 g_ 1 rI x_.2.2.1)] [0,20]) 1 (lS) ?_))
 rintro again7 ⟨x2,x3,x4,x5⟩ g6 h
 refine qs (rq hC [] [10,11] [(11,vB (decide ((0:Int)<x5)))] [] [] (aQ h (fun c1 h=> ?_) (fun c1 h=> ?_)))
 ·refine qk (qs (qb ?_))
  obtain⟨x8,hx8,x9,hx9,h⟩:=dI h
  exact rk hC [.z (.int 0),oC [0] [] (aX G hx8),.z (.int 0),oA (aT rI hx9),oQ (cL (r:=rI) 1 (fun _=>rfl) x4),oQ (cL (r:=rI) 1 (fun _=>rfl) [x8.1])] [5,14,15,16,17,18,19] [(5,ms 20 (g6+1) 1 rI x9)] [(0,sR x8.2),(20,some (ar 3 (g6+1) 1 rI x9))] [(0,true)] (rk hC [] [6,12,13] [(6,vI (wr (x5-1)))] [] [] ⟨(x8.2.b,x8.2.p,x9,wr (x5-1)),(g6+1),h,lS⟩)
 ·obtain rfl:=so h
  exact dA (rq hC [] [4,20] [(4,ms 20 g6 1 rI x4)] [] [] (qw (lk hC [.ren 4 20 1] [4] [(4,ms 1 1 1 rI x4)] [(1,some (ar 3 1 1 rI x4)),(20,none)] [(1,true)]) (qr eW)))
theorem s8{code}{r}(h:d4 n code=some r):VQ G 58 [] [vM rY code] (V.tup [V.agg (cF r.1),ms 0 1 1 rI r.2]) [ar 3 1 1 rI r.2]:=by
 unfold d4 at h
 refine vq aN Tryz.func58 rfl fun w X β0 hC hg=> ?_
 refine rq hC [.z (.nat 20)] [2,3] [(2,V.ref 20 0)] [(20,sc [V.t T.nilS,V.t T.nilS])] [(20,true)] ?_
 obtain⟨x1,hx1,h⟩:=bd h
 refine rq hC [oC [] [21] (aAu G hx1)] [4,6,7] [(4,V.ref 21 0)] [(21,sR x1)] [(21,true)] ?_
 obtain⟨x2,hx2,x3,hx3,h⟩:=dI h
 refine rq hC [oC [21] [] (aBL G hx2),oC [21] [] (T8 G hx3),.z (.nat 22)] [5,8,9,10,11] [(5,V.ref 22 0)] [(21,sR x3.2),(22,some (E.cells (cF x3.1)))] [(21,true),(21,true),(22,true)] (qs ?_)
 obtain⟨x4,hx4,x5,hx5,h⟩:=dI h
 obtain rfl:=so h
 exact dk hC bK [oC [21] [23] (T7 G hx4),.z (.at 3),.z (.fz 23 [16] []),oC [21] [24] (aBK G hx5)] [3,12,13,14,15,16,17] [(3,ms 24 1 1 rI x5.1)] [(23,none),(21,sR x5.2),(24,some (ar 3 1 1 rI x5.1)),(20,some (E.cells (cF x3.1)))] [(21,true),(23,true),(21,true),(24,true)] (qw (lk hC [.ren 3 24 0] [3] [(3,ms 0 1 1 rI x5.1)] [(0,some (ar 3 1 1 rI x5.1)),(24,none)] [(0,true)]) (qr eW))
theorem uG{code}{r}(h:eH n code=some r):VQ G 14 [] [vM rY code] (V.tup [V.agg (cF r.1),ms 0 1 1 rI r.2]) [ar 3 1 1 rI r.2]:=by
 unfold eH at h
 refine vq aN Tryz.func14 rfl fun w X β0 hC hg=> ?_
 refine rq hC [.z (.nat 20)] [2,3] [(2,V.ref 20 0)] [(20,sc [V.t T.nilS,V.t T.nilS])] [(20,true)] ?_
 obtain⟨x1,hx1,h⟩:=bd h
 obtain rfl:=so h
 exact rq hC [oC [] [21] (s8 G hx1)] (fr 3 5) [(3,ms 21 1 1 rI x1.2)] [(21,some (ar 3 1 1 rI x1.2)),(20,some (E.cells (cF x1.1)))] [(21,true)] (qw (lk hC [.ren 3 21 0] [3] [(3,ms 0 1 1 rI x1.2)] [(0,some (ar 3 1 1 rI x1.2)),(21,none)] [(0,true)]) (qr eW))
theorem bE{n_a0}{low}{high}{r}(h:bY n n_a0 low high=some r):PQ G 73 [vI n_a0,vI low,vI high] (vB r):=by
 unfold bY at h
 refine pq aN Tryz.func73 rfl fun w X hC=> ?_
 refine rq hC [] [6] [] [] [] (vj h (fun x_=>aZ [(6,vB x_)] [] []) (fun j1 h=> ?_) (fun x2 h=> ?_))
 ·
  refine aP h (fun c1 h=> ?_) (fun c1 h=> ?_)
  ·exact rk hC (rF 4 c1) (fr 6 9) [(6,vB false)] [] [] (lE h)
  ·exact rk hC (rT 4 c1) (fr 6 9) [(6,vB (decide (n_a0≤high)))] [] [] (lE h)
 ·obtain rfl:=so h
  exact qr eR
theorem yH{n_a0}{r}(h:sS n n_a0=some r):PQ G 309 [vI n_a0] (vB r):=by
 unfold sS at h
 refine pq aN Tryz.func309 rfl fun w X hC=> ?_
 refine rq hC [] [2] [] [] [] ?_
 obtain⟨x1,hx1,h⟩:=bd h
 obtain rfl:=so h
 exact rq hC [oV (bE G hx1)] [2,3,4] [(2,vB x1)] [] [] (qr eR)
theorem wB(G:GS)(n:Nat)(c:Int){r:Bool}(h:dY n c=some r):PQ G 310 [vI c] (vB r):=by
 unfold dY at h
 refine pq aN Tryz.func310 rfl fun w X hC=> ?_
 refine rq hC [] [2] [] [] [] ?_
 obtain⟨x1,hx1,h⟩:=bd h
 obtain rfl:=so h
 exact rq hC [oV (bE G hx1)] (fr 2 4) [(2,vB (!x1))] [] [] (qr eR)
theorem v6(G:GS)(n:Nat)(s:List Int)(fF:FuncId)(f:Int→Option Bool)(hf: ∀(q0:Int) r,f q0=some r→PQ G fF [vI q0] (vB r)){r:Int}(h:gU n s f=some r):PQ G 220 [vM rI s,V.fn fF []] (vI r):=by
 unfold gU at h
 refine pq aN Tryz.func220 rfl fun w X hC=> ?_
 refine rq hC [] [4] [] [] [] (qs (rq hC [oN rI s] [6,7,8] [(7,vI (s.length:Int)),(8,vI 0)] [] [] (qb (jC h (fun x_=>aZ [(0,vM rI s),(1,V.fn fF []),(7,vI (s.length:Int)),(8,vI x_)] [] []) lS ?_))))
 rintro again2 x1 h
 refine rq hC [] [9] [(9,vB (decide (x1<(s.length:Int))))] [] [] (qs (aQ h (fun c1 h=> ?_) (fun c1 h=> ?_)))
 ·refine qk (qs (qb (rq hC [] [5,10] [(5,vI x1)] [] [] ?_)))
  obtain⟨x3,hx3,x4,hx4,h⟩:=dI h
  refine rq hC [oR rI hx3,oV (hf x3 _ hx4)] (fr 11 6) [(16,vB x4)] [] [] (aQ h (fun c2 h=> ?_) (fun c2 h=> ?_))
  ·obtain rfl:=so h
   exact rq hC [] [4,17] [(4,vI x1)] [] [] (qr eR)
  ·exact qk (rk hC [] [8,18] [(8,vI (wr (x1+1)))] [] [] (lE h))
 ·obtain rfl:=so h
  exact dA (rq hC [] [4] [(4,vI (-1))] [] [] (qr eR))
theorem cZ(G:GS)(n:Nat)(s:List Int)(fF:FuncId)(f:Int→Option Bool)(hf: ∀(q0:Int) r,f q0=some r→PQ G fF [vI q0] (vB r)){r:Bool}(h:bG n s f=some r):PQ G 151 [vM rI s,V.fn fF []] (vB r):=by
 unfold bG at h
 refine pq aN Tryz.func151 rfl fun w X hC=> ?_
 refine rq hC [] [4] [] [] [] ?_
 obtain⟨x1,hx1,h⟩:=bd h
 obtain rfl:=so h
 exact rq hC [oV (v6 G n s fF f hf hx1)] (fr 4 5) [(4,vB (decide ((0:Int)≤x1)))] [] [] (qr eR)
theorem dE{a}{r}(h:eB n a=some r):PQ G 277 [V.agg (aY a)] (vB r):=by
 unfold eB at h
 refine pq aN Tryz.func277 rfl fun w X hC=> ?_
 refine rq hC [.z (.b (true))] [1,2] [(1,V.tp (bF a))] [] [] (vj h (fun x_=>aZ [(2,vB x_)] [] []) (fun j1 h=> ?_) (fun x4 h=> ?_))
 ·
  refine aP h (fun c1 h=> ?_) (fun c1 h=> ?_)
  ·exact rk hC ([oN rI a.coefs]++rF 4 c1++sF 5) (fr 2 16) [(2,vB false)] [] [] (lE h)
  ·obtain⟨x2,hx2,h⟩:=bd h
   refine aP h (fun c2 h=> ?_) (fun c2 h=> ?_)
   ·exact rk hC ([oN rI a.coefs]++rT 3 c1++[oV (yH G hx2),oT c1]++rF 5 c2) (fr 2 16) [(2,vB false)] [] [] (lE h)
   ·obtain⟨x3,hx3,h⟩:=bd h
    exact rk hC ([oN rI a.coefs]++rT 3 c1++[oV (yH G hx2),oT c1]++rT 3 c2++[oV (cZ G n a.coefs 310 (fun q0=>dY n q0) (fun q0 r h=>wB G n q0 h) hx3),oT c2,oT c2]) (fr 2 16) [(2,vB (!x3))] [] [] (lE h)
 ·obtain rfl:=so h
  exact qr eR
theorem gI{a}{r}(h:dQ n a=some r):PQ G 254 [V.agg (aY a)] (vI r):=by
 unfold dQ at h
 refine pq aN Tryz.func254 rfl fun w X hC=> ?_
 refine rq hC [.z (.b (true))] [1,2] [(1,V.tp (bF a))] [] [] (rq hC [oN rI a.coefs] (fr 3 4) [(3,vI (a.coefs.length:Int))] [] [] (qs (qb (jC h (fun x_=>aZ [(1,V.tp (bF a)),(3,vI x_)] [] []) lS ?_))))
 rintro again2 x1 h
 refine qs (vj h (fun x_=>aZ [(1,V.tp (bF a)),(3,vI x1),(17,vB x_)] [] []) (fun j3 h=> ?_) (fun x5 h=> ?_))
 ·
  refine aP h (fun c1 h=> ?_) (fun c1 h=> ?_)
  ·exact rk hC (rF 8 c1) (fr 7 11) [(17,vB false)] [] [] (lE h)
  ·obtain⟨x4,hx4,h⟩:=bd h
   exact rk hC (rT 5 c1++[oR rI hx4]++rT 3 c1) (fr 7 11) [(17,vB (decide (x4=0)))] [] [] (lE h)
 ·refine aQ h (fun c2 h=> ?_) (fun c2 h=> ?_)
  ·exact qk (qb (rk hC [] [3,18,19] [(3,vI (wr (x1-1)))] [] [] (lE h)))
  ·obtain rfl:=so h
   exact dA (rq hC [] [2,20] [(2,vI x1)] [] [] (qr eR))
end Go.Lift
