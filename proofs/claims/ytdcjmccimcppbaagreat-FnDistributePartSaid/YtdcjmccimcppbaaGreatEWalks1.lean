/- The walks: the code computes what the plain functions say. -/
import Derived.Test.YtdcjmccimcppbaaGreatEModels
import Derived.Test.YtdcjmccimcppbaaGreatEWalks0
set_option maxRecDepth 10000
set_option linter.unusedVariables false
namespace Go.Lift
open Go Go.Proofs
variable (G:GS) {n:Nat}
theorem aBT(G:GS)(n:Nat)(self:(List UInt8)→Int→Int→Option (Expr×Int))(hself: ∀(q0:List UInt8) (q1:Int) (q2:Int) {r:Expr×Int},self q0 q1 q2=some r→PQ G 353 [vS q0,vI q1,vI q2] (V.tup [V.agg (dJ r.1),vI r.2]))(s:List UInt8)(at_a1:Int)(levels:Int){r:Expr×Int}(h:yT n self s at_a1 levels=some r):PQ G 374 [vS s,vI at_a1,vI levels] (V.tup [V.agg (dJ r.1),vI r.2]):=by
 unfold yT at h
 refine pq aN Tryz.func374 rfl fun w X hC=> ?_
 refine rq hC [.z (.nat 20)] [6,7] [(6,V.ref 20 0)] [(20,sc [vI 0,vI 0,V.t T.nilS,vI 0,vS [],V.t T.nilS,V.t T.nilS])] [(20,true)] ?_
 obtain⟨x1,hx1,h⟩:=bd h
 refine rq hC [oV (hself s at_a1 levels hx1),.z (.nat 21)] [8,9,13,14,15,16,17,18,19] [(8,V.ref 21 0),(9,vI x1.2)] [(21,some (E.cells (dJ x1.1)))] [(21,true)] (qs (vj h (fun x_=>aX [(0,vS s),(2,vI levels),(6,V.ref 20 0),(8,V.ref 21 0),(9,vI x1.2),(27,vB x_)] [(20,E.cells [vI 0,vI 0,V.t T.nilS,vI 0,vS [],V.t T.nilS,V.t T.nilS]),(21,E.cells (dJ x1.1))] [20,21]) (fun j2 h=> ?_) (fun x3 h=> ?_)))
 ·
  refine aR h (fun c1 h=> ?_) (fun c1 h=> ?_)
  ·exact rk hC (rF 5 c1) (fr 20 8) [(27,vB (decide ((s.length:Int)≤x1.2)))] [] [] (lE h)
  ·exact rk hC (rT 5 c1) (fr 20 8) [(27,vB true)] [] [] (lE h)
 ·refine aS h (fun c2 h=> ?_) (fun c2 h=> ?_)
  ·obtain rfl:=so h
   exact rq hC [] [7,28] [(7,vI (-1))] [(20,sc [vI 0,vI 0,V.t T.nilS,vI 0,vS [],V.t T.nilS,V.t T.nilS])] [] (qr eR)
  ·refine qk (rq hC [] [10] [(10,vI 4)] [] [] (vj h (fun x_=>aX [(0,vS s),(2,vI levels),(6,V.ref 20 0),(8,V.ref 21 0),(9,vI x1.2),(10,vI x_)] [(20,E.cells [vI 0,vI 0,V.t T.nilS,vI 0,vS [],V.t T.nilS,V.t T.nilS]),(21,E.cells (dJ x1.1))] [20,21]) (fun j4 h=> ?_) (fun x6 h=> ?_)))
   ·
    obtain⟨x5,hx5,h⟩:=bd h
    refine rq hC [oY hx5] [29,30,31] [(31,vY x5)] [] [] (qb (rq hC [] [32,33] [(32,vB (decide ((x5.toNat:Int)=45)))] [] [] (aS h (fun c3 h=> ?_) (fun c3 h=> ?_))))
    ·exact rk hC [] [10] [(10,vI 5)] [] [] (lE h)
    ·refine rq hC [] [34,35] [(34,vB (decide ((x5.toNat:Int)=42)))] [] [] (aS h (fun c4 h=> ?_) (fun c4 h=> ?_))
     ·exact rk hC [] [10] [(10,vI 6)] [] [] (lE h)
     ·exact qk (lE h)
   ·obtain⟨x7,hx7,h⟩:=bd h
    refine rq hC [oV (hself s (wr (x1.2+1)) levels hx7),.z (.nat 22)] [11,12,36,37,38,39,40,41,42,43] [(11,V.ref 22 0),(12,vI x7.2)] [(22,some (E.cells (dJ x7.1)))] [(22,true)] (qs (vj h (fun x_=>aX [(6,V.ref 20 0),(8,V.ref 21 0),(10,vI x6),(11,V.ref 22 0),(12,vI x7.2),(51,vB x_)] [(20,E.cells [vI 0,vI 0,V.t T.nilS,vI 0,vS [],V.t T.nilS,V.t T.nilS]),(21,E.cells (dJ x1.1)),(22,E.cells (dJ x7.1))] [20,21,22]) (fun j8 h=> ?_) (fun x9 h=> ?_)))
    ·
     refine aR h (fun c5 h=> ?_) (fun c5 h=> ?_)
     ·exact rk hC (rF 5 c5) (fr 44 8) [(51,vB (decide ((s.length:Int)≤x7.2)))] [] [] (lE h)
     ·exact rk hC (rT 5 c5) (fr 44 8) [(51,vB true)] [] [] (lE h)
    ·refine aS h (fun c6 h=> ?_) (fun c6 h=> ?_)
     ·obtain rfl:=so h
      exact rq hC [] [7,52] [(7,vI (-1))] [(20,sc [vI 0,vI 0,V.t T.nilS,vI 0,vS [],V.t T.nilS,V.t T.nilS])] [] (qr eR)
     ·obtain rfl:=so h
      exact qk (rq hC [.z (.int 2),.z (.rows (List.map aK [x1.1,x7.1])),oQ (aID x1.1 x7.1)] [7,53,54,55,56,57,58,59] [(7,vI (wr (x7.2+1)))] [(20,sc [vI x6,vI 0,V.t T.nilS,vI 0,vS [],V.t T.nilS,vM aK [x1.1,x7.1]])] [] (qr eR))
theorem aBV(G:GS): ∀(n:Nat) (s:List UInt8) (at_a1:Int) (levels:Int) {r:Expr×Int} (h:s_l3Parse n s at_a1 levels=some r),PQ G 353 [vS s,vI at_a1,vI levels] (V.tup [V.agg (dJ r.1),vI r.2]):=by
 intro n
 induction n with
 |zero=>intro s at_a1 levels r h;rw [s_l3Parse.eq_def] at h;cases h
 |succ n ih=>
  intro s at_a1 levels r h
  rw [s_l3Parse.eq_def] at h;dsimp only at h
  refine pq aN Tryz.func353 rfl fun w X hC=> ?_
  refine rq hC [.z (.nat 20)] [6,7] [(6,V.ref 20 0)] [(20,sc [vI 0,vI 0,V.t T.nilS,vI 0,vS [],V.t T.nilS,V.t T.nilS])] [(20,true)] (qs (vj h (fun x_=>aX [(0,vS s),(1,vI at_a1),(2,vI levels),(6,V.ref 20 0),(26,vB x_)] [(20,E.cells [vI 0,vI 0,V.t T.nilS,vI 0,vS [],V.t T.nilS,V.t T.nilS])] [20]) (fun j1 h=> ?_) (fun x2 h=> ?_)))
  ·
   refine aR h (fun c1 h=> ?_) (fun c1 h=> ?_)
   ·refine aR h (fun c2 h=> ?_) (fun c2 h=> ?_)
    ·exact rk hC (rF 3 c1++rF 5 c2) (fr 15 12) [(26,vB (decide ((s.length:Int)≤at_a1)))] [] [] (lE h)
    ·exact rk hC (rF 3 c1++rT 5 c2) (fr 15 12) [(26,vB true)] [] [] (lE h)
   ·exact rk hC (rT 3 c1++sT 5) (fr 15 12) [(26,vB true)] [] [] (lE h)
  ·refine aS h (fun c3 h=> ?_) (fun c3 h=> ?_)
   ·obtain rfl:=so h
    exact rq hC [] [7,27] [(7,vI (-1))] [(20,sc [vI 0,vI 0,V.t T.nilS,vI 0,vS [],V.t T.nilS,V.t T.nilS])] [] (qr eR)
   ·refine qk (qs (qb ?_))
    obtain⟨x3,hx3,h⟩:=bd h
    refine rq hC [oY hx3] (fr 28 5) [(28,vB (decide ((x3.toNat:Int)=123)))] [] [] (aS h (fun c4 h=> ?_) (fun c4 h=> ?_))
    ·obtain⟨x4,hx4,h⟩:=bd h
     refine rq hC [oV (A8 G hx4)] [8,33,34,35] [(8,vI x4)] [] [] (qs (rq hC [] [36,37] [(37,vB (decide (x4<0)))] [] [] (aS h (fun c5 h=> ?_) (fun c5 h=> ?_))))
     ·obtain rfl:=so h
      exact rq hC [] [7,38] [(7,vI (-1))] [(20,sc [vI 0,vI 0,V.t T.nilS,vI 0,vS [],V.t T.nilS,V.t T.nilS])] [] (qr eR)
     ·refine qk ?_
      obtain⟨x5,hx5,x6,hx6,h⟩:=dG h
      obtain rfl:=so h
      exact rq hC [oS hx5,oV (rZ G hx6),.z (.nat 21)] [9,10,39,40,41,42,43,44,45,46,47] [(9,V.ref 21 0)] [(21,some (E.cells (aT x6.1)))] [(21,true)] (rq hC [] [7,48,49,50,51] [(7,vI (wr (x4+1)))] [(20,sc [vI 2,vI 0,vM rI x6.1.coefs,vI x6.1.const,vS [],V.t T.nilS,V.t T.nilS])] [] (qr eR))
    ·refine vj h (fun x_=>aX [(0,vS s),(1,vI at_a1),(2,vI levels),(6,V.ref 20 0),(52,vB x_)] [(20,E.cells [vI 0,vI 0,V.t T.nilS,vI 0,vS [],V.t T.nilS,V.t T.nilS])] [20]) (fun j7 h=> ?_) (fun x8 h=> ?_)
     ·
      refine aR h (fun c6 h=> ?_) (fun c6 h=> ?_)
      ·exact rk hC ([oY hx3]++rF 5 c6) (fr 52 11) [(52,vB false)] [] [] (lE h)
      ·exact rk hC ([oY hx3]++rT 3 c6++[oY hx3,oT c6,oT c6]) (fr 52 11) [(52,vB (decide ((x3.toNat:Int)≤68)))] [] [] (lE h)
     ·refine aS h (fun c7 h=> ?_) (fun c7 h=> ?_)
      ·obtain⟨x9,hx9,h⟩:=bd h
       obtain rfl:=so h
       exact rq hC [oV (o6 G hx9),.z (.nat 21)] [11,12,63,64,65,66,67,68] [(11,V.ref 21 0),(12,vI x9.2)] [(21,some (E.cells (cT x9.1)))] [(21,true)] (rq hC [] [7,69,70,71] [(7,vI x9.2)] [(20,sc [vI 3,vI 0,V.t T.nilS,vI 0,vS x9.1.array,vM aB x9.1.subs,V.t T.nilS])] [] (qr eR))
      ·refine rq hC [oY hx3] (fr 72 5) [(72,vB (decide ((x3.toNat:Int)=40)))] [] [] (aS h (fun c8 h=> ?_) (fun c8 h=> ?_))
       ·obtain⟨x10,hx10,h⟩:=bd h
        obtain rfl:=so h
        exact rq hC [oV (aBT G n (s_l3Parse n) (fun q0 q1 q2 r h=>ih q0 q1 q2 h) s (wr (at_a1+1)) (wr (levels-1)) hx10)] [7,77,78,79,80,81,82,83,84] [(7,vI x10.2)] [(20,some (E.cells (dJ x10.1)))] [] (qr eR)
       ·refine qk ?_
        obtain⟨x11,hx11,h⟩:=bd h
        refine rq hC [oV (xY G hx11)] [13,14,85,86,87,88,89,90] [(13,vI x11.1),(14,vI x11.2)] [] [] (qs (rq hC [] [91,92,93] [(93,vB (decide (x11.2=at_a1)))] [] [] (aS h (fun c9 h=> ?_) (fun c9 h=> ?_))))
        ·obtain rfl:=so h
         exact rq hC [] [7,94] [(7,vI (-1))] [(20,sc [vI 0,vI 0,V.t T.nilS,vI 0,vS [],V.t T.nilS,V.t T.nilS])] [] (qr eR)
        ·obtain rfl:=so h
         exact qk (rq hC [] [7,95,96,97] [(7,vI x11.2)] [(20,sc [vI 1,vI x11.1,V.t T.nilS,vI 0,vS [],V.t T.nilS,V.t T.nilS])] [] (qr eR))
theorem oG{list}{r}(h:kD n list=some r):PQ G 355 [vM aB list] (vS r):=by
 unfold kD at h
 refine pq aN Tryz.func355 rfl fun w X hC=> ?_
 refine rq hC [] [2] [] [] [] (rq hC [] [3] [(3,vS [])] [] [] (qs (rq hC [] [4] [(4,vI 0)] [] [] (qb (jZ h (fun x_=>aX [(0,vM aB list),(3,vS x_.1),(4,vI x_.2)] [] []) lS ?_)))))
 rintro again3 ⟨x1,x2⟩ h
 refine qs (rq hC [oN aB list] (fr 5 4) [(8,vB (decide (x2<(list.length:Int))))] [] [] (aS h (fun c1 h=> ?_) (fun c1 h=> ?_)))
 ·refine qk (qs (qb (vj h (fun x_=>aX [(0,vM aB list),(3,vS x_),(4,vI x2)] [] []) (fun j4 h=> ?_) (fun x6 h=> ?_))))
  ·
   refine rq hC [] [11,12] [(12,vB (decide ((0:Int)<x2)))] [] [] (aS h (fun c2 h=> ?_) (fun c2 h=> ?_))
   ·obtain⟨x5,hx5,h⟩:=bd h
    exact rk hC [oS hx5] [3,13,14] [(3,vS x5)] [] [] (lE h)
   ·exact qk (lE h)
  ·obtain⟨x7,hx7,x8,hx8,x9,hx9,h⟩:=lC h
   exact rk hC [oR aB hx7,oV (v8 G hx8),oS hx9] [3,15,16,17,18,19,20,21] [(3,vS x9)] [] [] (rk hC [] [4,9,10] [(4,vI (wr (x2+1)))] [] [] (lE h))
 ·obtain rfl:=so h
  exact cU (rq hC [] [2,22] [(2,vS x1)] [] [] (qr eR))
theorem lY{a}{r}(h:gY n a=some r):PQ G 328 [V.agg (cT a)] (vS r):=by
 unfold gY at h
 refine pq aN Tryz.func328 rfl fun w X hC=> ?_
 refine rq hC [.z (.b (true))] [1,2] [(1,V.tp (d6 a))] [] [] (qs ?_)
 obtain⟨x1,hx1,x2,hx2,x3,hx3,h⟩:=lC h
 obtain⟨x4,hx4,h⟩:=bd h
 obtain rfl:=so h
 exact dk hC bL [oS hx1,oV (oG G hx2),oS hx3,oS hx4] (fr 2 9) [(2,vS x4)] [] [] (qr eR)
theorem N7(G:GS): ∀(n:Nat) (e:Expr) {r:(List UInt8)} (h:s_l3Text n e=some r),PQ G 329 [V.agg (dJ e)] (vS r):=by
 intro n
 induction n with
 |zero=>intro e r h;rw [s_l3Text.eq_def] at h;cases h
 |succ n ih=>
  intro e r h
  rw [s_l3Text.eq_def] at h;dsimp only at h
  refine pq aN Tryz.func329 rfl fun w X hC=> ?_
  refine rq hC [.z (.b (true))] [1,2] [(1,V.tp (gW e))] [] [] (qs (rq hC [] [3,4] [(4,vI e.kind)] [] [] (qb (rq hC [] [5,6] [(5,vB (decide (e.kind=1)))] [] [] (aS h (fun c1 h=> ?_) (fun c1 h=> ?_))))))
  ·obtain⟨x1,hx1,h⟩:=bd h
   obtain rfl:=so h
   exact rq hC [oV (rJ G n e.num hx1)] [2,7,8,9] [(2,vS x1)] [] [] (qr eR)
  ·refine rq hC [] [10,11] [(10,vB (decide (e.kind=2)))] [] [] (aS h (fun c2 h=> ?_) (fun c2 h=> ?_))
   ·obtain⟨x2,hx2,x3,hx3,x4,hx4,h⟩:=lC h
    obtain rfl:=so h
    exact rq hC [oV (v8 G hx2),oS hx3,oS hx4] [2,12,13,14,15,16] [(2,vS x4)] [] [] (qr eR)
   ·refine rq hC [] [17,18] [(17,vB (decide (e.kind=3)))] [] [] (aS h (fun c3 h=> ?_) (fun c3 h=> ?_))
    ·obtain⟨x5,hx5,h⟩:=bd h
     obtain rfl:=so h
     exact rq hC [oV (lY G hx5)] [2,19,20,21] [(2,vS x5)] [] [] (qr eR)
    ·refine qk (qs ?_)
     obtain⟨x6,hx6,x7,hx7,x8,hx8,h⟩:=lC h
     obtain⟨x9,hx9,x10,hx10,x11,hx11,h⟩:=lC h
     obtain⟨x12,hx12,x13,hx13,x14,hx14,h⟩:=lC h
     obtain rfl:=so h
     exact dk hC bL [.z (.row (eJ x6)),oQ (fL aK hx6 (cY x6)),oV (ih x6 hx7),oS hx8,oS hx9,oS hx10,.z (.row (eJ x11)),oQ (fL aK hx11 (cY x11)),oV (ih x11 hx12),oS hx13,oS hx14] [2,22,23,24,25,26,27,28,29,30,31,32,33,34,35,36,37,38,39,40,41,42,43] [(2,vS x14)] [] [] (qr eR)
theorem P0{s}{r}(h:qT n s=some r):PQ G 354 [V.agg (cV s)] (vS r):=by
 unfold qT at h
 refine pq aN Tryz.func354 rfl fun w X hC=> ?_
 refine rq hC [.z (.b (true))] [1,2] [(1,V.tp (oP s))] [] [] (qs ?_)
 obtain⟨x1,hx1,h⟩:=bd h
 refine rq hC [oV (pC G hx1)] [3,4,5] [(5,vB (!x1))] [] [] (aS h (fun c1 h=> ?_) (fun c1 h=> ?_))
 ·obtain rfl:=so h
  exact rq hC [] [2] [(2,vS [])] [] [] (qr eR)
 ·refine qk (qs ?_)
  obtain⟨x2,hx2,x3,hx3,x4,hx4,h⟩:=lC h
  obtain⟨x5,hx5,h⟩:=bd h
  obtain rfl:=so h
  exact dk hC bL [oV (lY G hx2),oS hx3,oV (N7 G n s.value hx4),oS hx5] [2,6,7,8,9,10,11,12,13] [(2,vS x5)] [] [] (qr eR)
theorem uZ{text}{r}(h:mB n text=some r):PQ G 325 [vS text] (V.tup [V.agg (cV r.1),vB r.2]):=by
 unfold mB at h
 refine pq aN Tryz.func325 rfl fun w X hC=> ?_
 refine rq hC [.z (.nat 20)] [2,3] [(2,V.ref 20 0)] [(20,sc [vS [],V.t T.nilS,vI 0,vI 0,V.t T.nilS,vI 0,vS [],V.t T.nilS,V.t T.nilS])] [(20,true)] (qs (rq hC [] [9,10,11] [(11,vB (decide ((text.length:Int)<4)))] [] [] (aS h (fun c1 h=> ?_) (fun c1 h=> ?_))))
 ·obtain rfl:=so h
  exact rq hC [] [3,12] [(3,vB false)] [(20,sc [vS [],V.t T.nilS,vI 0,vI 0,V.t T.nilS,vI 0,vS [],V.t T.nilS,V.t T.nilS])] [] (qr eR)
 ·refine qk ?_
  obtain⟨x1,hx1,h⟩:=bd h
  refine rq hC [oV (o6 G hx1),.z (.nat 21)] [4,5,13,14,15,16,17] [(4,V.ref 21 0),(5,vI x1.2)] [(21,some (E.cells (cT x1.1)))] [(21,true)] (qs (vj h (fun x_=>aX [(0,vS text),(2,V.ref 20 0),(4,V.ref 21 0),(5,vI x1.2),(25,vB x_)] [(20,E.cells [vS [],V.t T.nilS,vI 0,vI 0,V.t T.nilS,vI 0,vS [],V.t T.nilS,V.t T.nilS]),(21,E.cells (cT x1.1))] [20,21]) (fun j2 h=> ?_) (fun x3 h=> ?_)))
  ·
   refine aR h (fun c2 h=> ?_) (fun c2 h=> ?_)
   ·exact rk hC (rF 5 c2) (fr 18 8) [(25,vB (decide ((text.length:Int)≤x1.2)))] [] [] (lE h)
   ·exact rk hC (rT 5 c2) (fr 18 8) [(25,vB true)] [] [] (lE h)
  ·refine aS h (fun c3 h=> ?_) (fun c3 h=> ?_)
   ·obtain rfl:=so h
    exact rq hC [] [3,26] [(3,vB false)] [(20,sc [vS [],V.t T.nilS,vI 0,vI 0,V.t T.nilS,vI 0,vS [],V.t T.nilS,V.t T.nilS])] [] (qr eR)
   ·refine qk ?_
    obtain⟨x4,hx4,h⟩:=bd h
    refine rq hC [oV (aBV G n text (wr (x1.2+1)) 5 hx4),.z (.nat 22)] [6,7,27,28,29,30,31,32,33] [(6,V.ref 22 0)] [(22,some (E.cells (dJ x4.1)))] [(22,true)] (rq hC [.z (.nat 23)] [8,34,35,36] [(8,V.ref 23 0)] [(23,sc [vS x1.1.array,vM aB x1.1.subs,vI x4.1.kind,vI x4.1.num,vM rI x4.1.index.coefs,vI x4.1.index.const,vS x4.1.read.array,vM aB x4.1.read.subs,vM aK x4.1.kids])] [(23,true)] (qs ?_))
    obtain⟨x5,hx5,h⟩:=bd h
    refine rq hC [oV (P0 G hx5)] (fr 37 4) [(40,vB (!decide (x5=text)))] [] [] (aS h (fun c4 h=> ?_) (fun c4 h=> ?_))
    ·obtain rfl:=so h
     exact rq hC [] [3,41] [(3,vB false)] [(20,sc [vS [],V.t T.nilS,vI 0,vI 0,V.t T.nilS,vI 0,vS [],V.t T.nilS,V.t T.nilS])] [] (qr eR)
    ·obtain rfl:=so h
     exact qk (rq hC [] [3,42] [(3,vB true)] [(20,sc [vS x1.1.array,vM aB x1.1.subs,vI x4.1.kind,vI x4.1.num,vM rI x4.1.index.coefs,vI x4.1.index.const,vS x4.1.read.array,vM aB x4.1.read.subs,vM aK x4.1.kids])] [] (qr eR))
def tI:List Nd:=[⟨46,2,[(0,1),(1,2)]⟩,⟨123,2,[]⟩,⟨84,9,[]⟩]
theorem aDr(G:GS)(n:Nat)(p:Prog)(line:List UInt8)(g0 g1:Nat){r:Prog}(h:G9 n p line=some r):VQ G 278 [ar 90 g0 2 aH p.arrays,E.tree tI 0 g1 (List.map aC p.parts) []] [V.agg [ms 0 g0 2 aH p.arrays,ms 1 g1 2 aC p.parts],vS line] (V.agg [ms 0 (g0+1) 2 aH r.arrays,ms 1 (g1+1) 2 aC r.parts]) [ar 90 (g0+1) 2 aH r.arrays,E.tree tI 0 (g1+1) (List.map aC r.parts) []]:=by
 unfold G9 at h
 refine vq aN Tryz.func278 rfl fun w X β0 hC hg=> ?_
 refine rq hC [.z (.nat 20),.z (.nat 21)] [0,2,4] [(2,V.ref 20 0),(4,V.ref 21 0)] [(20,sc [ms 0 g0 2 aH p.arrays,ms 1 g1 2 aC p.parts]),(21,sc [V.t T.nilS,V.t T.nilS])] [(20,true),(21,true)] ?_
 obtain⟨x1,hx1,h⟩:=bd h
 refine rq hC [oC [] [22] (xZ G hx1)] [5,11,12] [(5,ms 22 1 1 rS x1)] [(22,some (ar 9 1 1 rS x1))] [(22,true)] (rq hC [oN aC p.parts] [6,13,14,15,16] [(6,vI (wr ((p.parts.length:Int)-1)))] [] [] (qw (lk hC [.fz 22 [5] []] [5] [(5,vM rS x1)] [(22,none)] []) (qs (qb (vj h (fun x_=>aX [(1,vS line),(2,V.ref 20 0),(4,V.ref 21 0),(5,vM rS x1),(6,vI (wr ((p.parts.length:Int)-1))),(17,vB x_)] [(0,ar 90 g0 2 aH p.arrays),(1,E.tree tI 0 g1 (List.map aC p.parts) []),(20,E.cells [ms 0 g0 2 aH p.arrays,ms 1 g1 2 aC p.parts]),(21,E.cells [V.t T.nilS,V.t T.nilS])] [0,1,20,21,22]) (fun j2 h=> ?_) (fun x4 h=> ?_))))))
 ·
  refine aR h (fun c1 h=> ?_) (fun c1 h=> ?_)
  ·exact rk hC ([oN rS x1]++rF 5 c1) (fr 17 10) [(17,vB false)] [] [] (lE h)
  ·obtain⟨x3,hx3,h⟩:=bd h
   exact rk hC ([oN rS x1,oT c1,oT c1,oR rS hx3]++rT 3 c1) (fr 17 10) [(17,vB (decide (x3=[97,114,114,97,121])))] [] [] (lE h)
 ·refine aS h (fun c2 h=> ?_) (fun c2 h=> ?_)
  ·obtain⟨x5,hx5,x6,hx6,h⟩:=dG h
   obtain rfl:=so h
   exact dk hC bL [oV (aBQ G hx5),.z (.int 0),oA (aO aH hx6),oQ (bW (r:=aH) 2 gH p.arrays),oQ (bW (r:=aH) 2 gH [x5])] (fr 27 7) [] [(0,some (ar 90 (g0+1) 2 aH x6)),(20,sc [ms 0 (g0+1) 2 aH x6,ms 1 g1 2 aC p.parts])] [] (rq hC [] [98] [] [(21,sc [ms 0 (g0+1) 2 aH x6,ms 1 g1 2 aC p.parts])] [] (qw (dW 21 1 1 g1 g1 2 0 (List.map aC p.parts).length (e:=E.tree tI 0 g1 (List.map aC p.parts) []) (cs:=[ms 0 (g0+1) 2 aH x6,ms 1 g1 2 aC p.parts]) rfl (by kernel_rfl) (by kernel_rfl) (by kernel_rfl) (by kernel_rfl) rfl rfl hg.2.1) (qr eW)))
  ·refine rq hC [] [34,35,36] [(34,vB (decide (line=[112,97,114,116])))] [] [] (aS h (fun c3 h=> ?_) (fun c3 h=> ?_))
   ·obtain⟨x7,hx7,h⟩:=bd h
    obtain rfl:=so h
    exact rk hC [.z (.at 4),.z (.growa 39 0 24 123),.z (.growa 39 1 25 84),.z (.lt 26 tI 0),.z (.rows (List.map aC (p.parts++[(⟨[],[]⟩:Part)]))),.z (.at 2),.z (.tre 24 tI 1),.z (.unf 1 24 (aC (⟨[],[]⟩:Part)) (List.map aC (p.parts++[(⟨[],[]⟩:Part)]))),.z (.tre 25 tI 2),.z (.unf 1 25 (aC (⟨[],[]⟩:Part)) (List.map aC x7)),.z (.len 41 (List.map aC x7).length),oQ (Eq.refl (ndOf tI 0)),oQ (aHh aC (⟨[],[]⟩:Part) hx7),oQ (bW (r:=aC) 2 b6 p.parts),oQ (bW (r:=aC) 2 b6 [(⟨[],[]⟩:Part)]),oQ (Eq.refl (List.map aD []).length),oQ (Eq.refl tI),oQ (Z1 aC p.parts (⟨[],[]⟩:Part)),oQ (aFU aC p.parts (ph:=(⟨[],[]⟩:Part)) (y:=(⟨[],[]⟩:Part)) rfl),oQ (Eq.refl (List.map aI []).length),oQ (Eq.refl tI),oQ (Z1 aC p.parts (⟨[],[]⟩:Part)),oQ (aBb aC hx7 (ph:=(⟨[],[]⟩:Part)) rfl),oQ (aGh aC (⟨[],[]⟩:Part) hx7)] (fr 37 6) [] [(24,none),(25,none),(26,some (E.tree tI 0 1 (List.map aC [(⟨[],[]⟩:Part)]) [(0,0,ms 24 1 2 aD []),(0,1,ms 25 1 9 aI [])])),(1,some (E.tree tI 0 (g1+1) (List.map aC x7) [])),(20,sc [ms 0 g0 2 aH p.arrays,ms 1 (g1+1) 2 aC x7])] [(24,true),(25,true),(26,true)] (rq hC [] [98] [] [(21,sc [ms 0 g0 2 aH p.arrays,ms 1 (g1+1) 2 aC x7])] [] (qw (dW 21 0 0 g0 g0 2 0 (List.map aH p.arrays).length (e:= .arr 90 g0 2 (List.map aH p.arrays)) (cs:=[ms 0 g0 2 aH p.arrays,ms 1 (g1+1) 2 aC x7]) rfl (by kernel_rfl) (by kernel_rfl) (by kernel_rfl) (by kernel_rfl) rfl rfl hg.1) (qr eW)))
   ·refine vj h (fun x_=>aX [(1,vS line),(2,V.ref 20 0),(4,V.ref 21 0),(6,vI (wr ((p.parts.length:Int)-1))),(43,vB x_)] [(0,ar 90 g0 2 aH p.arrays),(1,E.tree tI 0 g1 (List.map aC p.parts) []),(20,E.cells [ms 0 g0 2 aH p.arrays,ms 1 g1 2 aC p.parts]),(21,E.cells [V.t T.nilS,V.t T.nilS])] [0,1,20,21,22]) (fun j6 h=> ?_) (fun x8 h=> ?_)
    ·
     refine aR h (fun c4 h=> ?_) (fun c4 h=> ?_)
     ·exact rk hC (rF 4 c4++sF 5) (fr 43 14) [(43,vB false)] [] [] (lE h)
     ·refine aR h (fun c5 h=> ?_) (fun c5 h=> ?_)
      ·exact rk hC ([oT c4,oT c4,oN rS x1,oT c4,oT c4]++rF 5 c5) (fr 43 14) [(43,vB false)] [] [] (lE h)
      ·obtain⟨x7,hx7,h⟩:=bd h
       exact rk hC ([oT c4,oT c4,oN rS x1,oT c4,oT c4,oT c5,oT c5,oR rS hx7]++rT 3 c5) (fr 43 14) [(43,vB (decide (x7=[102,111,114])))] [] [] (lE h)
    ·refine aS h (fun c6 h=> ?_) (fun c6 h=> ?_)
     ·obtain⟨x9,hx9,h⟩:=bd h
      refine rq hC [.z (.foc 1 24 (0+Int.toNat (wr ((p.parts.length:Int)-1))) 0 (aC x9)),.z (.foc 1 25 (0+Int.toNat (wr ((p.parts.length:Int)-1))) 1 (aC x9)),oX aC hx9,.z (.nat 23),oQ (ixr aC hx9),oQ (mP aC hx9),oQ (ixr aC hx9)] [7,57,58,59,60,61] [(7,V.ref 23 0)] [(1,some (E.tree tI 0 g1 (List.map aC p.parts) [((0+Int.toNat (wr ((p.parts.length:Int)-1))),1,ms 25 1 9 aI x9.body),((0+Int.toNat (wr ((p.parts.length:Int)-1))),0,ms 24 1 2 aD x9.nest)])),(24,some (E.tree tI 1 1 (List.map aD x9.nest) [])),(25,some (E.tree tI 2 1 (List.map aI x9.body) [])),(23,sc [ms 24 1 2 aD x9.nest,ms 25 1 9 aI x9.body])] [(24,true),(25,true),(23,true)] (qw (lk hC [.shd 24] [] [] [(24,some (ar 123 1 2 aD x9.nest))] []) (qs ?_))
      obtain⟨x10,hx10,x13,hx13,x14,hx14,h⟩:=lC h
      obtain rfl:=so h
      exact dk hC bL [oV (aDz G hx10),.z (.int 0),oA (aO aD hx13),oQ (bW (r:=aD) 2 dA x9.nest),oQ (bW (r:=aD) 2 dA [x10])] (fr 62 7) [] [(24,some (ar 123 2 2 aD x13)),(23,sc [ms 24 2 2 aD x13,ms 25 1 9 aI x9.body])] [] (rk hC [oQ (mP aC hx9),oX aC hx9,.z (.unf 1 25 (aC x9) (List.map aC p.parts)),.z (.tre 24 tI 1),.z (.unf 1 24 (aC x9) (List.map aC x14)),.z (.lenc 20 1 (List.map aC x14).length),oQ (Eq.refl (List.map aI x9.body).length),oQ (Eq.refl tI),oQ (ixr aC hx9),oQ (aFW aC hx9 rfl),oQ (Eq.refl (List.map aD x13).length),oQ (Eq.refl tI),oQ (ixr aC hx9),oQ (aFV aC hx14 rfl),oQ (uO aC hx14)] (fr 69 5) [] [(24,none),(25,none),(1,some (E.tree tI 0 g1 (List.map aC x14) [])),(20,sc [ms 0 g0 2 aH p.arrays,ms 1 g1 2 aC x14])] [] (rq hC [] [98] [] [(21,sc [ms 0 g0 2 aH p.arrays,ms 1 g1 2 aC x14])] [] (qw (dW 21 0 0 g0 g0 2 0 (List.map aH p.arrays).length (e:= .arr 90 g0 2 (List.map aH p.arrays)) (cs:=[ms 0 g0 2 aH p.arrays,ms 1 g1 2 aC x14]) rfl (by kernel_rfl) (by kernel_rfl) (by kernel_rfl) (by kernel_rfl) rfl rfl hg.1) (qw (dW 21 1 1 g1 g1 2 0 (List.map aC x14).length (e:=E.tree tI 0 g1 (List.map aC x14) []) (cs:=[ms 0 (g0+1) 2 aH p.arrays,ms 1 g1 2 aC x14]) rfl (by kernel_rfl) (by kernel_rfl) (by kernel_rfl) (by kernel_rfl) rfl rfl hg.2.1) (qr eW)))))
     ·refine rq hC [] [74,75,76] [(74,vB (decide ((0:Int)≤wr ((p.parts.length:Int)-1))))] [] [] (aS h (fun c7 h=> ?_) (fun c7 h=> ?_))
      ·obtain⟨x11,hx11,h⟩:=bd h
       refine rq hC [.z (.foc 1 25 (0+Int.toNat (wr ((p.parts.length:Int)-1))) 1 (aC x11)),.z (.foc 1 26 (0+Int.toNat (wr ((p.parts.length:Int)-1))) 0 (aC x11)),oX aC hx11,.z (.nat 23),oQ (ixr aC hx11),oQ (mP aC hx11),oQ (ixr aC hx11)] [8,77,78,79,80,81] [(8,V.ref 23 0)] [(1,some (E.tree tI 0 g1 (List.map aC p.parts) [((0+Int.toNat (wr ((p.parts.length:Int)-1))),0,ms 26 1 2 aD x11.nest),((0+Int.toNat (wr ((p.parts.length:Int)-1))),1,ms 25 1 9 aI x11.body)])),(25,some (E.tree tI 2 1 (List.map aI x11.body) [])),(26,some (E.tree tI 1 1 (List.map aD x11.nest) [])),(23,sc [ms 26 1 2 aD x11.nest,ms 25 1 9 aI x11.body])] [(25,true),(26,true),(23,true)] (qw (lk hC [.shd 25] [] [] [(25,some (ar 84 1 9 aI x11.body))] []) ?_)
       obtain⟨x12,hx12,h⟩:=bd h
       refine rq hC [oV (uZ G hx12),.z (.nat 24)] [9,10,82,83,84,85,86] [(9,V.ref 24 0)] [(24,some (E.cells (cV x12.1)))] [(24,true)] ?_
       obtain⟨x15,hx15,x16,hx16,h⟩:=dG h
       obtain rfl:=so h
       exact rq hC [.z (.int 0),oA (aO aI hx15),oQ (bW (r:=aI) 9 cJ x11.body),oQ (bW (r:=aI) 9 cJ [x12.1])] (fr 87 6) [] [(25,some (ar 84 2 9 aI x15)),(23,sc [ms 26 1 2 aD x11.nest,ms 25 2 9 aI x15])] [] (rk hC [oQ (mP aC hx11),oX aC hx11,.z (.unf 1 26 (aC x11) (List.map aC p.parts)),.z (.tre 25 tI 2),.z (.unf 1 25 (aC x11) (List.map aC x16)),.z (.lenc 20 1 (List.map aC x16).length),oQ (Eq.refl (List.map aD x11.nest).length),oQ (Eq.refl tI),oQ (ixr aC hx11),oQ (aFW aC hx11 rfl),oQ (Eq.refl (List.map aI x15).length),oQ (Eq.refl tI),oQ (ixr aC hx11),oQ (aFV aC hx16 rfl),oQ (uO aC hx16)] (fr 93 5) [] [(25,none),(26,none),(1,some (E.tree tI 0 g1 (List.map aC x16) [])),(20,sc [ms 0 g0 2 aH p.arrays,ms 1 g1 2 aC x16])] [] (rq hC [] [98] [] [(21,sc [ms 0 g0 2 aH p.arrays,ms 1 g1 2 aC x16])] [] (qw (dW 21 0 0 g0 g0 2 0 (List.map aH p.arrays).length (e:= .arr 90 g0 2 (List.map aH p.arrays)) (cs:=[ms 0 g0 2 aH p.arrays,ms 1 g1 2 aC x16]) rfl (by kernel_rfl) (by kernel_rfl) (by kernel_rfl) (by kernel_rfl) rfl rfl hg.1) (qw (dW 21 1 1 g1 g1 2 0 (List.map aC x16).length (e:=E.tree tI 0 g1 (List.map aC x16) []) (cs:=[ms 0 (g0+1) 2 aH p.arrays,ms 1 g1 2 aC x16]) rfl (by kernel_rfl) (by kernel_rfl) (by kernel_rfl) (by kernel_rfl) rfl rfl hg.2.1) (qr eW)))))
      ·obtain rfl:=so h
       exact qk (rq hC [] [98] [] [(21,sc [ms 0 g0 2 aH p.arrays,ms 1 g1 2 aC p.parts])] [] (qw (dW 21 0 0 g0 g0 2 0 (List.map aH p.arrays).length (e:= .arr 90 g0 2 (List.map aH p.arrays)) (cs:=[ms 0 g0 2 aH p.arrays,ms 1 g1 2 aC p.parts]) rfl (by kernel_rfl) (by kernel_rfl) (by kernel_rfl) (by kernel_rfl) rfl rfl hg.1) (qw (dW 21 1 1 g1 g1 2 0 (List.map aC p.parts).length (e:=E.tree tI 0 g1 (List.map aC p.parts) []) (cs:=[ms 0 (g0+1) 2 aH p.arrays,ms 1 g1 2 aC p.parts]) rfl (by kernel_rfl) (by kernel_rfl) (by kernel_rfl) (by kernel_rfl) rfl rfl hg.2.1) (qr eW))))
theorem aDw{nest}{r}(h:H0 n nest=some r):PQ G 327 [vM aD nest] (vS r):=by
 unfold H0 at h
 refine pq aN Tryz.func327 rfl fun w X hC=> ?_
 refine rq hC [] [2] [] [] [] (rq hC [] [3] [(3,vS [])] [] [] (qs (rq hC [] [4] [(4,vI 0)] [] [] (qb (jZ h (fun x_=>aX [(0,vM aD nest),(3,vS x_.1),(4,vI x_.2)] [] []) lS ?_)))))
 rintro again3 ⟨x1,x2⟩ h
 refine qs (rq hC [oN aD nest] (fr 5 4) [(8,vB (decide (x2<(nest.length:Int))))] [] [] (aS h (fun c1 h=> ?_) (fun c1 h=> ?_)))
 ·refine qk (qs (qb ?_))
  obtain⟨x4,hx4,x5,hx5,x6,hx6,h⟩:=lC h
  obtain⟨x7,hx7,x8,hx8,x9,hx9,h⟩:=lC h
  obtain⟨x10,hx10,x11,hx11,h⟩:=dG h
  exact dk hC bL [oS hx4,oR aD hx5,oV (oG G hx6),oS hx7,oS hx8,oR aD hx5,oV (oG G hx9),oS hx10,oS hx11] [3,11,12,13,14,15,16,17,18,19,20,21,22,23,24,25,26,27,28] [(3,vS x11)] [] [] (rk hC [] [4,9,10] [(4,vI (wr (x2+1)))] [] [] (lE h))
 ·obtain rfl:=so h
  exact cU (rq hC [] [2,29] [(2,vS x1)] [] [] (qr eR))
theorem yB{p}{r}(h:mN n p=some r):PQ G 279 [V.agg (bD p)] (vS r):=by
 unfold mN at h
 refine pq aN Tryz.func279 rfl fun w X hC=> ?_
 refine rq hC [.z (.b (true))] [1,2] [(1,V.tp (bM p))] [] [] (qs ?_)
 obtain⟨x1,hx1,h⟩:=bd h
 refine rq hC [oV (cS G hx1)] [9,10,11] [(11,vB (!x1))] [] [] (aS h (fun c1 h=> ?_) (fun c1 h=> ?_))
 ·obtain rfl:=so h
  exact rq hC [] [2] [(2,vS [])] [] [] (qr eR)
 ·refine qk (rq hC [] [3] [(3,vS [112,114,111,103,114,97,109,10])] [] [] (qs (rq hC [] [4] [(4,vI 0)] [] [] (qb (jZ h (fun x_=>aX [(1,V.tp (bM p)),(3,vS x_.1),(4,vI x_.2)] [] []) lS ?_)))))
  rintro again4 ⟨x2,x3⟩ h
  refine qs (rq hC [oN aH p.arrays] (fr 12 5) [(16,vB (decide (x3<(p.arrays.length:Int))))] [] [] (aS h (fun c2 h=> ?_) (fun c2 h=> ?_)))
  ·refine qk (qs (qb ?_))
   obtain⟨x5,hx5,x6,hx6,x7,hx7,h⟩:=lC h
   refine rq hC [oS hx5,oR aH hx6,oS hx7] [3,19,20,21,22,23,24,25,26,27] [(3,vS x7)] [] [] (qs (rq hC [] [5] [(5,vI 0)] [] [] (qb (jZ h (fun x_=>aX [(1,V.tp (bM p)),(3,vS x_.1),(4,vI x3),(5,vI x_.2)] [] []) lS ?_))))
   rintro again10 ⟨x8,x9⟩ h
   refine qs (rq hC [oR aH hx6,oN rI x6.dims] (fr 28 9) [(36,vB (decide (x9<(x6.dims.length:Int))))] [] [] (aS h (fun c3 h=> ?_) (fun c3 h=> ?_)))
   ·refine qk (qs (qb ?_))
    obtain⟨x11,hx11,x12,hx12,x13,hx13,h⟩:=lC h
    obtain⟨x14,hx14,h⟩:=bd h
    exact rk hC [oS hx11,oR aH hx6,oR rI hx12,oV (rJ G n x12 hx13),oS hx14] [3,39,40,41,42,43,44,45,46,47,48,49,50,51] [(3,vS x14)] [] [] (rk hC [] [5,37,38] [(5,vI (wr (x9+1)))] [] [] (lE h))
   ·refine cU ?_
    obtain⟨x15,hx15,h⟩:=bd h
    exact rk hC [oS hx15] [3,52,53] [(3,vS x15)] [] [] (rk hC [] [4,17,18] [(4,vI (wr (x3+1)))] [] [] (lE h))
  ·refine cU (qs (rq hC [] [6] [(6,vI 0)] [] [] (qb (jZ h (fun x_=>aX [(1,V.tp (bM p)),(3,vS x_.1),(6,vI x_.2)] [] []) lS ?_))))
   rintro again18 ⟨x16,x17⟩ h
   refine qs (rq hC [oN aC p.parts] (fr 54 5) [(58,vB (decide (x17<(p.parts.length:Int))))] [] [] (aS h (fun c4 h=> ?_) (fun c4 h=> ?_)))
   ·refine qk (qs (qb ?_))
    obtain⟨x19,hx19,x20,hx20,x21,hx21,h⟩:=lC h
    obtain⟨x22,hx22,h⟩:=bd h
    refine rq hC [oS hx19,oR aC hx20,oV (aDw G hx21),oS hx22] [3,61,62,63,64,65,66,67,68,69,70] [(3,vS x22)] [] [] (rq hC [] [7] [(7,vI 0)] [] [] (qb (jZ h (fun x_=>aX [(1,V.tp (bM p)),(3,vS x_.1),(6,vI x17),(7,vI x_.2)] [] []) lS ?_)))
    rintro again25 ⟨x23,x24⟩ h
    refine qs (rq hC [oR aC hx20,oN aI x20.body] (fr 71 9) [(79,vB (decide (x24<(x20.body.length:Int))))] [] [] (aS h (fun c5 h=> ?_) (fun c5 h=> ?_)))
    ·refine qk (qs (qb ?_))
     obtain⟨x26,hx26,h⟩:=bd h
     refine rq hC [oR aC hx20,oR aI hx26,.z (.nat 20)] [8,82,83,84,85,86,87,88,89,90] [(8,V.ref 20 0)] [(20,some (E.cells (cV x26)))] [(20,true)] ?_
     obtain⟨x27,hx27,x28,hx28,x29,hx29,h⟩:=lC h
     obtain⟨x30,hx30,x31,hx31,x32,hx32,h⟩:=lC h
     exact dk hC bL [oV (lY G hx27),oS hx28,oS hx29,oV (N7 G n x26.value hx30),oS hx31,oS hx32] [3,91,92,93,94,95,96,97,98,99,100,101] [(3,vS x32)] [] [] (rk hC [] [7,80,81] [(7,vI (wr (x24+1)))] [] [] (lE h))
    ·exact cU (rk hC [] [6,59,60] [(6,vI (wr (x17+1)))] [] [] (lE h))
   ·obtain rfl:=so h
    exact cU (rq hC [] [2,102] [(2,vS x16)] [] [] (qr eR))
theorem zO{text}{r}(h:eI n text=some r):PQ G 208 [vS text] (V.tup [V.agg (bD r.1),vB r.2]):=by
 unfold eI at h
 refine pq aN Tryz.func208 rfl fun w X hC=> ?_
 refine rq hC [.z (.nat 20)] [2,3] [(2,V.ref 20 0)] [(20,sc [V.t T.nilS,V.t T.nilS])] [(20,true)] ?_
 obtain⟨x1,hx1,h⟩:=bd h
 refine rq hC [oC [] [21] (wE G hx1)] [4,7,8] [(4,ms 21 1 1 rS x1)] [(21,some (ar 9 1 1 rS x1))] [(21,true)] (rq hC [.z (.nat 22)] [5,9] [(5,V.ref 22 0)] [(22,sc [V.t T.nilS,V.t T.nilS])] [(22,true)] (qs (rq hC [oN rS x1] [10,11,12] [(12,vB (decide ((42:Int)<(x1.length:Int))))] [] [] (aS h (fun c1 h=> ?_) (fun c1 h=> ?_)))))
 ·obtain rfl:=so h
  exact rq hC [] [3,13] [(3,vB false)] [(20,sc [V.t T.nilS,V.t T.nilS])] [] (qr eR)
 ·refine qk (qs (rq hC [] [6] [(6,vI 1)] [] [] (qb (qw (lk hC [.growc 22 0 23 90,.growc 22 1 24 46,.tre 24 tI 0] [] [] [(23,some (ar 90 1 2 aH [])),(24,some (E.tree tI 0 1 (List.map aC []) [])),(22,sc [ms 23 1 2 aH [],ms 24 1 2 aC []])] [(23,true),(24,true)]) (bA (γ:=Nat×Nat) h (fun x_ g_=>aX [(0,vS text),(2,V.ref 20 0),(4,ms 21 1 1 rS x1),(5,V.ref 22 0),(6,vI x_.2.2)] [(20,E.cells [V.t T.nilS,V.t T.nilS]),(21,ar 9 1 1 rS x1),(22,E.cells [ms 23 g_.1 2 aH x_.1,ms 24 g_.2 2 aC x_.2.1]),(23,ar 90 g_.1 2 aH x_.1),(24,E.tree tI 0 g_.2 (List.map aC x_.2.1) [])] [20,21,22,23,24]) (1,1) (lS) ?_)))))
  rintro again5 ⟨x2,x3,x4⟩ ⟨g5,g6⟩ h
  refine qs (rq hC [oN rS x1] (fr 14 5) [(18,vB (decide (wr (x4+1)<(x1.length:Int))))] [] [] (aS h (fun c2 h=> ?_) (fun c2 h=> ?_)))
  ·refine qk (qs (qb ?_))
   obtain⟨x6,hx6,x7,hx7,h⟩:=dG h
   exact dk hC bL [oQ (mP rS hx6),oX rS hx6,oC [23,24] [] (aDr G n (⟨x2,x3⟩:Prog) x6 g5 g6 hx7)] (fr 21 6) [] [(23,some (ar 90 (g5+1) 2 aH x7.arrays)),(24,some (E.tree tI 0 (g6+1) (List.map aC x7.parts) [])),(22,sc [ms 23 (g5+1) 2 aH x7.arrays,ms 24 (g6+1) 2 aC x7.parts])] [(23,true),(24,true)] (rk hC [] [6,19,20] [(6,vI (wr (x4+1)))] [] [] ⟨(x7.arrays,x7.parts,wr (x4+1)),(g5+1,g6+1),h,lS⟩)
  ·refine cU (qs (vj h (fun x_=>aX [(2,V.ref 20 0),(5,V.ref 22 0),(34,vB x_)] [(20,E.cells [V.t T.nilS,V.t T.nilS]),(21,ar 9 1 1 rS x1),(22,E.cells [ms 23 g5 2 aH x2,ms 24 g6 2 aC x3]),(23,ar 90 g5 2 aH x2),(24,E.tree tI 0 g6 (List.map aC x3) [])] [20,21,22,23,24]) (fun j8 h=> ?_) (fun x10 h=> ?_)))
   ·
    refine aR h (fun c3 h=> ?_) (fun c3 h=> ?_)
    ·obtain⟨x9,hx9,h⟩:=bd h
     exact rk hC ([oF c3,oF c3,.z (.b true),.z (.nat 23),.z (.nat 24),oV (yB G hx9)]++rF 3 c3) (fr 27 8) [(34,vB (!decide (x9=text)))] [] [] (lE h)
    ·exact rk hC (rT 5 c3) (fr 27 8) [(34,vB true)] [] [] (lE h)
   ·refine aS h (fun c4 h=> ?_) (fun c4 h=> ?_)
    ·obtain rfl:=so h
     exact rq hC [] [3,35] [(3,vB false)] [(20,sc [V.t T.nilS,V.t T.nilS])] [] (qr eR)
    ·obtain rfl:=so h
     exact qk (qs (qw (lk hC [.fz 23 [] [22],.shd 24,.fz 24 [] [22]] [] [] [(22,sc [vM aH x2,vM aC x3]),(23,none),(24,none)] []) (rk hC [] [3,36] [(3,vB true)] [(20,sc [vM aH x2,vM aC x3])] [] (qr eR))))
theorem rC(G:GS)(n:Nat){r:(List Arr)}(h:pM n=some r):PQ G 295 [] (vM aH r):=by
 unfold pM at h
 refine pq aN Tryz.func295 rfl fun w X hC=> ?_
 obtain rfl:=so h
 exact rq hC [] [0] [] [] [] (rq hC [.z (.int 0),.z (.int 0),.z (.int 0),.z (.int 0)] (fr 0 8) [(0,vM aH [(⟨[65],[6]⟩:Arr),(⟨[66],[4,5]⟩:Arr),(⟨[67],[3]⟩:Arr)])] [] [] (qr eR))
theorem dB{n_a0}{r}(h:dM n n_a0=some r):VQ G 100 [] [vI n_a0] (V.agg [ms 0 1 1 rI r.coefs,vI r.const]) [ar 3 1 1 rI r.coefs]:=by
 unfold dM at h
 refine vq aN Tryz.func100 rfl fun w X β0 hC hg=> ?_
 refine rq hC [.z (.nat 20)] [2] [(2,V.ref 20 0)] [(20,sc [V.t T.nilS,vI 0])] [(20,true)] ?_
 obtain⟨x1,hx1,h⟩:=bd h
 obtain rfl:=so h
 exact rq hC [oC [] [21] (lZ G n hx1),.z (.nat 22)] [3,4] [(3,V.ref 22 0)] [(21,some (ar 3 1 1 rI x1.coefs)),(22,sc [ms 21 1 1 rI x1.coefs,vI x1.const])] [(21,true),(22,true)] (rq hC [] [5,6] [] [(22,sc [ms 21 1 1 rI x1.coefs,vI n_a0])] [] (rq hC [] [7] [] [(20,sc [ms 21 1 1 rI x1.coefs,vI n_a0])] [] (qw (lk hC [.rn 21 0 [] [20,22]] [] [] [(20,sc [ms 0 1 1 rI x1.coefs,vI n_a0]),(22,sc [ms 0 1 1 rI x1.coefs,vI n_a0]),(21,none),(0,some (ar 3 1 1 rI x1.coefs))] [(0,true)]) (qr eW))))
theorem qG{v}{r}(h:mW n v=some r):VQ G 119 [] [vI v] (V.agg [ms 0 1 1 rI r.coefs,vI r.const]) [ar 3 1 1 rI r.coefs]:=by
 unfold mW at h
 refine vq aN Tryz.func119 rfl fun w X β0 hC hg=> ?_
 refine rq hC [.z (.nat 20)] [2] [(2,V.ref 20 0)] [(20,sc [V.t T.nilS,vI 0])] [(20,true)] ?_
 obtain⟨x1,hx1,h⟩:=bd h
 refine rq hC [oC [] [21] (lZ G n hx1),.z (.nat 22)] [3,4] [(3,V.ref 22 0)] [(21,some (ar 3 1 1 rI x1.coefs)),(22,sc [ms 21 1 1 rI x1.coefs,vI x1.const])] [(21,true),(22,true)] ?_
 obtain⟨x2,hx2,x3,hx3,h⟩:=dG h
 obtain rfl:=so h
 exact rq hC [oQ (mP rI hx2),oX rI hx2,.z (.rows (List.map rI x3)),.z (.lenc 22 0 (List.map rI x3).length),oQ (str rI hx3),oQ (uO rI hx3)] (fr 5 4) [] [(21,some (ar 3 1 1 rI x3)),(22,sc [ms 21 1 1 rI x3,vI x1.const])] [] (rq hC [] [9] [] [(20,sc [ms 21 1 1 rI x3,vI x1.const])] [] (qw (lk hC [.rn 21 0 [] [20,22]] [] [] [(20,sc [ms 0 1 1 rI x3,vI x1.const]),(22,sc [ms 0 1 1 rI x3,vI x1.const]),(21,none),(0,some (ar 3 1 1 rI x3))] [(0,true)]) (qr eW)))
theorem uY{a}{x}{b}{y}{r}(h:jQ n a x b y=some r):VQ G 118 [] [V.agg (aT a),vI x,V.agg (aT b),vI y] (V.agg [ms 0 1 1 rI r.coefs,vI r.const]) [ar 3 1 1 rI r.coefs]:=by
 unfold jQ at h
 refine vq aN Tryz.func118 rfl fun w X β0 hC hg=> ?_
 refine rq hC [.z (.b (true)),.z (.b (true)),.z (.nat 20)] [4,6,8] [(4,V.tp (bQ a)),(6,V.tp (bQ b)),(8,V.ref 20 0)] [(20,sc [V.t T.nilS,vI 0])] [(20,true)] (rq hC [.z (.nat 21)] [9,11,12,13,14,15,16,17,18,19,20] [(9,V.ref 21 0)] [(21,sc [V.t T.nilS,vI (wr ((wr (x*a.const))+(wr (y*b.const))))])] [(21,true)] (qs (rq hC [] [10] [(10,vI 0)] [] [] (qb (qw (lk hC [.growc 21 0 22 3] [] [] [(22,some (ar 3 1 1 rI [])),(21,sc [ms 22 1 1 rI [],vI (wr ((wr (x*a.const))+(wr (y*b.const))))])] [(22,true)]) ?_)))))
 refine bA (γ:=Nat) h (fun x_ g_=>aX [(1,vI x),(3,vI y),(4,V.tp (bQ a)),(6,V.tp (bQ b)),(8,V.ref 20 0),(9,V.ref 21 0),(10,vI x_.2)] [(20,E.cells [V.t T.nilS,vI 0]),(21,E.cells [ms 22 g_ 1 rI x_.1,vI (wr ((wr (x*a.const))+(wr (y*b.const))))]),(22,ar 3 g_ 1 rI x_.1)] [20,21,22]) 1 (lS) ?_
 rintro again4 ⟨x1,x2⟩ g3 h
 refine qs (rq hC [] [21,22] [(22,vB (decide (x2<4)))] [] [] (aS h (fun c1 h=> ?_) (fun c1 h=> ?_)))
 ·refine qk (qs (qb ?_))
  obtain⟨x5,hx5,x6,hx6,x7,hx7,h⟩:=lC h
  exact dk hC bL [oR rI hx5,oR rI hx6,.z (.int 0),oA (aO rI hx7),oQ (bW (r:=rI) 1 (fun _=>rfl) x1),oQ (bW (r:=rI) 1 (fun _=>rfl) [wr ((wr (x*x5))+(wr (y*x6)))])] (fr 25 20) [] [(22,some (ar 3 (g3+1) 1 rI x7)),(21,sc [ms 22 (g3+1) 1 rI x7,vI (wr ((wr (x*a.const))+(wr (y*b.const))))])] [] (rk hC [] [10,23,24] [(10,vI (wr (x2+1)))] [] [] ⟨(x7,wr (x2+1)),(g3+1),h,lS⟩)
 ·obtain rfl:=so h
  exact cU (rq hC [] [45] [] [(20,sc [ms 22 g3 1 rI x1,vI (wr ((wr (x*a.const))+(wr (y*b.const))))])] [] (qw (lk hC [.rn 22 0 [] [20,21]] [] [] [(20,sc [ms 0 1 1 rI x1,vI (wr ((wr (x*a.const))+(wr (y*b.const))))]),(21,sc [ms 0 1 1 rI x1,vI (wr ((wr (x*a.const))+(wr (y*b.const))))]),(22,none),(0,some (ar 3 1 1 rI x1))] [(0,true)]) (qr eW)))
theorem aDy{r_a0}{depth}{r}(h:s8 n r_a0 depth=some r):VQ G 366 [eL r_a0] [V.ref 0 0,vI depth] (V.agg (lB r.1)) [eL r.2]:=by
 unfold s8 at h
 refine vq aN Tryz.func366 rfl fun w X β0 hC hg=> ?_
 refine rq hC [.z (.nat 20)] [4] [(4,V.ref 20 0)] [(20,sc [V.t T.nilS,V.t T.nilS])] [(20,true)] ?_
 obtain⟨x1,hx1,x2,hx2,h⟩:=dG h
 refine rq hC [.z (.int 0),oC [0] [] (aZ G hx1),oC [] [21] (dB G hx2),.z (.nat 22)] [5,9,10,11,12] [(5,V.ref 22 0)] [(0,sR x1.2),(21,some (ar 3 1 1 rI x2.coefs)),(22,sc [ms 21 1 1 rI x2.coefs,vI x2.const])] [(0,true),(21,true),(22,true)] ?_
 obtain⟨x3,hx3,x4,hx4,h⟩:=dG h
 refine rq hC [.z (.int 0),oC [0] [] (aZ G hx3),oC [] [23] (dB G hx4),.z (.nat 24)] [6,13,14,15,16] [(6,V.ref 24 0)] [(0,sR x3.2),(23,some (ar 3 1 1 rI x4.coefs)),(24,sc [ms 23 1 1 rI x4.coefs,vI x4.const])] [(0,true),(23,true),(24,true)] (vj h (fun x_=>aX [(0,V.ref 0 0),(4,V.ref 20 0),(5,V.ref 22 0),(6,V.ref 24 0)] [(0,E.cells [vM rY x_.1,vI x_.2.1]),(20,E.cells [V.t T.nilS,V.t T.nilS]),(22,E.cells [vM rI x_.2.2.1,vI x_.2.2.2.1]),(24,E.cells [vM rI x_.2.2.2.2.1,vI x_.2.2.2.2.2])] [0,20,21,22,23,24]) (fun j5 h=> ?_) ?_)
 ·
  refine vj h (fun x_=>aX [(0,V.ref 0 0),(1,vI depth),(4,V.ref 20 0),(5,V.ref 22 0),(6,V.ref 24 0),(23,vB x_.2.2)] [(0,E.cells [vM rY x_.1,vI x_.2.1]),(20,E.cells [V.t T.nilS,V.t T.nilS]),(21,ar 3 1 1 rI x2.coefs),(22,E.cells [ms 21 1 1 rI x2.coefs,vI x2.const]),(23,ar 3 1 1 rI x4.coefs),(24,E.cells [ms 23 1 1 rI x4.coefs,vI x4.const])] [0,20,21,22,23,24]) (fun j6 h=> ?_) ?_
  ·
   refine aR h (fun c1 h=> ?_) (fun c1 h=> ?_)
   ·exact rk hC (rF 4 c1) (fr 17 7) [(23,vB false)] [] [] (lE h)
   ·obtain⟨x7,hx7,h⟩:=bd h
    exact rk hC [oT c1,oT c1,oC [0] [] (bP G hx7),oT c1,oT c1] (fr 17 7) [(23,vB (decide (x7.1=0)))] [(0,sR x7.2)] [(0,true)] (lE h)
  ·rintro⟨x8,x9,x10⟩ h
   refine aS h (fun c2 h=> ?_) (fun c2 h=> ?_)
   ·obtain⟨x11,hx11,h⟩:=bd h
    refine rq hC [oC [0] [] (bP G hx11)] [7,24,25,26] [(7,vI x11.1)] [(0,sR x11.2)] [(0,true)] ?_
    obtain⟨x12,hx12,h⟩:=bd h
    refine rq hC [oC [0] [] (bP G hx12)] [27,28,29] [(29,vB (decide (x12.1=0)))] [(0,sR x12.2)] [(0,true)] (aS h (fun c3 h=> ?_) (fun c3 h=> ?_))
    ·obtain⟨x13,hx13,h⟩:=bd h
     exact rk hC [oC [] [25] (qG G hx13)] [30,31] [] [(25,some (ar 3 1 1 rI x13.coefs)),(22,sc [ms 25 1 1 rI x13.coefs,vI x13.const])] [(25,true)] ⟨(x12.2.b,x12.2.p,x13.coefs,x13.const,x4.coefs,x4.const),h,((lk hC [.fz 23 [] [24],.fz 25 [] [22]] [] [] [(24,some (E.cells (aT x4))),(23,none),(22,some (E.cells (aT x13))),(25,none)] []).trans (lS))⟩
    ·obtain⟨x14,hx14,x15,hx15,x16,hx16,h⟩:=lC h
     exact rk hC [oC [] [25] (qG G hx14),oC [] [26] (dB G hx15),.z (.at 2),.z (.fz 25 [33] []),.z (.at 2),.z (.fz 26 [34] []),oC [] [27] (uY G hx16)] (fr 32 4) [] [(25,none),(26,none),(27,some (ar 3 1 1 rI x16.coefs)),(24,sc [ms 27 1 1 rI x16.coefs,vI x16.const])] [(25,true),(26,true),(27,true)] ⟨(x12.2.b,x12.2.p,x2.coefs,x2.const,x16.coefs,x16.const),h,((lk hC [.fz 21 [] [22],.fz 27 [] [24]] [] [] [(22,some (E.cells (aT x2))),(21,none),(24,some (E.cells (aT x16))),(27,none)] []).trans (lS))⟩
   ·exact qk ⟨(x8,x9,x2.coefs,x2.const,x4.coefs,x4.const),h,((lk hC [.fz 21 [] [22],.fz 23 [] [24]] [] [] [(22,some (E.cells (aT x2))),(21,none),(24,some (E.cells (aT x4))),(23,none)] []).trans (lS))⟩
 ·rintro⟨x17,x18,x19,x20,x21,x22⟩ h
  refine rq hC [.z (.int 1),.z (.nat 25),.z (.int 1),.z (.nat 26),.z (.nat 27)] [8,36,37,38,39,40] [(8,V.ref 27 0)] [(25,some (ar 79 1 2 aB [(⟨x19,x20⟩:Affine)])),(26,some (ar 79 1 2 aB [(⟨x21,x22⟩:Affine)])),(27,sc [ms 25 1 2 aB [(⟨x19,x20⟩:Affine)],ms 26 1 2 aB [(⟨x21,x22⟩:Affine)]])] [(25,true),(26,true),(27,true)] ?_
  obtain⟨j23,hj23,h⟩:=C0 h
  refine lF (γ:=Nat×Nat) (j:=j23) (r:=r) (fun x_ g_=>aX [(4,V.ref 20 0),(8,V.ref 27 0)] [(0,E.cells [vM rY x_.1,vI x_.2.1]),(20,E.cells [V.t T.nilS,V.t T.nilS]),(22,E.cells [vM rI x19,vI x20]),(24,E.cells [vM rI x21,vI x22]),(25,ar 79 g_.1 2 aB x_.2.2.1),(26,ar 79 g_.2 2 aB x_.2.2.2),(27,E.cells [ms 25 g_.1 2 aB x_.2.2.1,ms 26 g_.2 2 aB x_.2.2.2])] [0,20,21,22,23,24,25,26,27]) ?_ ?_
  ·
   obtain⟨x24,hx24,h⟩:=bd h
   refine rq hC [oC [0] [] (bP G hx24)] [41,42] [(42,vI x24.1)] [(0,sR x24.2)] [(0,true)] (qb (rq hC [] [43,44] [(43,vB (decide (x24.1=0)))] [] [] (aS h (fun c4 h=> ?_) (fun c4 h=> ?_))))
   ·obtain⟨x25,hx25,x26,hx26,x27,hx27,h⟩:=lC h
    exact dk hC bL [.z (.int 0),oC [0] [] (aZ G hx25),oC [] [28] (dB G hx26),.z (.at 4),.z (.fz 28 [50] []),.z (.int 0),oA (aO aB hx27),oQ (bW (r:=aB) 2 bC [(⟨x21,x22⟩:Affine)]),oQ (bW (r:=aB) 2 bC [x26])] (fr 45 9) [] [(0,sR x25.2),(28,none),(26,some (ar 79 2 2 aB x27)),(27,sc [ms 25 1 2 aB [(⟨x19,x20⟩:Affine)],ms 26 2 2 aB x27])] [(0,true),(28,true)] ⟨(x25.2.b,x25.2.p,[(⟨x19,x20⟩:Affine)],x27),(1,2),h,lS⟩
   ·refine rq hC [] [54,55] [(54,vB (decide (x24.1=1)))] [] [] (aS h (fun c5 h=> ?_) (fun c5 h=> ?_))
    ·obtain⟨x28,hx28,x29,hx29,x30,hx30,h⟩:=lC h
     exact dk hC bL [.z (.int 0),oC [0] [] (aZ G hx28),oC [] [28] (dB G hx29),.z (.at 4),.z (.fz 28 [61] []),.z (.int 0),oA (aO aB hx30),oQ (bW (r:=aB) 2 bC [(⟨x19,x20⟩:Affine)]),oQ (bW (r:=aB) 2 bC [x29])] (fr 56 9) [] [(0,sR x28.2),(28,none),(25,some (ar 79 2 2 aB x30)),(27,sc [ms 25 2 2 aB x30,ms 26 1 2 aB [(⟨x21,x22⟩:Affine)]])] [(0,true),(28,true)] ⟨(x28.2.b,x28.2.p,x30,[(⟨x21,x22⟩:Affine)]),(2,1),h,lS⟩
    ·exact qk ⟨(x24.2.b,x24.2.p,[(⟨x19,x20⟩:Affine)],[(⟨x21,x22⟩:Affine)]),(1,1),h,lS⟩
  ·rintro⟨x31,x32,x33,x34⟩ ⟨g35,g36⟩ h
   subst hj23
   obtain rfl:=so h
   exact rq hC [.z (.at 2),.z (.fz 25 [] [27]),.z (.at 2),.z (.fz 26 [] [27])] [65] [] [(27,sc [vM aB x33,vM aB x34]),(25,none),(26,none),(20,sc [vM aB x33,vM aB x34])] [] (qr eW)
theorem aDx{r_a0}{r}(h:s7 n r_a0=some r):VQ G 336 [eL r_a0] [V.ref 0 0] (ms 1 1 2 aD r.1) [eL r.2,ar 123 1 2 aD r.1]:=by
 unfold s7 at h
 refine vq aN Tryz.func336 rfl fun w X β0 hC hg=> ?_
 refine rq hC [] [2] [] [] [] (rq hC [.z (.nat 20)] [3,5] [(3,ms 20 1 2 aD [])] [(20,some (ar 123 1 2 aD []))] [(20,true)] (qs ?_))
 obtain⟨x1,hx1,h⟩:=bd h
 refine rq hC [.z (.int 0),oC [0] [] (aZ G hx1)] [4,6,7,8] [(4,vI x1.1)] [(0,sR x1.2)] [(0,true)] (qb (bA (γ:=Nat) h (fun x_ g_=>aX [(0,V.ref 0 0),(3,ms 20 g_ 2 aD x_.2.2.1),(4,vI x_.2.2.2)] [(0,E.cells [vM rY x_.1,vI x_.2.1]),(20,ar 123 g_ 2 aD x_.2.2.1)] [0,20]) 1 (lS) ?_))
 rintro again7 ⟨x2,x3,x4,x5⟩ g6 h
 refine qs (rq hC [] [9,10] [(10,vB (decide ((0:Int)<x5)))] [] [] (aS h (fun c1 h=> ?_) (fun c1 h=> ?_)))
 ·refine qk (qs (qb ?_))
  obtain⟨x8,hx8,x9,hx9,h⟩:=dG h
  exact rk hC [oN aD x4,oC [0] [] (aDy G hx8),.z (.int 0),oA (aO aD hx9),oQ (bW (r:=aD) 2 dA x4),oQ (bW (r:=aD) 2 dA [x8.1])] [3,13,14,15,16,17,18,19] [(3,ms 20 (g6+1) 2 aD x9)] [(0,sR x8.2),(20,some (ar 123 (g6+1) 2 aD x9))] [(0,true)] (rk hC [] [4,11,12] [(4,vI (wr (x5-1)))] [] [] ⟨(x8.2.b,x8.2.p,x9,wr (x5-1)),(g6+1),h,lS⟩)
 ·obtain rfl:=so h
  exact cU (rq hC [] [2,20] [(2,ms 20 g6 2 aD x4)] [] [] (qw (lk hC [.ren 2 20 1] [2] [(2,ms 1 1 2 aD x4)] [(1,some (ar 123 1 2 aD x4)),(20,none)] [(1,true)]) (qr eW)))
theorem nA{r_a0}{list}{r}(h:f0 n r_a0 list=some r):VQ G 151 [eL r_a0] [V.ref 0 0,vM rS list] (vS r.1) [eL r.2]:=by
 unfold f0 at h
 refine vq aN Tryz.func151 rfl fun w X β0 hC hg=> ?_
 refine rq hC [] [4] [] [] [] ?_
 obtain⟨x1,hx1,x2,hx2,h⟩:=dG h
 obtain rfl:=so h
 exact rq hC [oN rS list,oC [0] [] (bP G hx1),oR rS hx2] (fr 4 8) [(4,vS x2)] [(0,sR x1.2)] [(0,true)] (qr eW)
theorem N9{r_a0}{depth}{r}(h:nU n r_a0 depth=some r):VQ G 232 [eL r_a0] [V.ref 0 0,vI depth] (V.agg (cT r.1)) [eL r.2]:=by
 unfold nU at h
 refine vq aN Tryz.func232 rfl fun w X β0 hC hg=> ?_
 refine rq hC [.z (.nat 20)] [4] [(4,V.ref 20 0)] [(20,sc [vS [],V.t T.nilS])] [(20,true)] ?_
 obtain⟨x1,hx1,h⟩:=bd h
 refine rq hC [.z (.int 0),oC [0] [] (nA G hx1),.z (.nat 21)] [5,10,11,12,13] [(5,V.ref 21 0)] [(0,sR x1.2),(21,sc [vS x1.1,V.t T.nilS])] [(0,true),(21,true)] (rq hC [] [6] [(6,vI 1)] [] [] (vj h (fun x_=>aX [(0,V.ref 0 0),(1,vI depth),(4,V.ref 20 0),(5,V.ref 21 0),(6,vI x_)] [(0,eL x1.2),(20,E.cells [vS [],V.t T.nilS]),(21,E.cells [vS x1.1,V.t T.nilS])] [0,20,21]) (fun j2 h=> ?_) (fun x3 h=> ?_)))
 ·
  refine rq hC [] [14,15,16] [(16,vB (decide (x1.1=[66])))] [] [] (aS h (fun c1 h=> ?_) (fun c1 h=> ?_))
  ·exact rk hC [] [6] [(6,vI 2)] [] [] (lE h)
  ·exact qk (lE h)
 ·refine qs (rq hC [] [7] [(7,vI 0)] [] [] (qb (qw (lk hC [.growc 21 1 22 79] [] [] [(22,some (ar 79 1 2 aB [])),(21,sc [vS x1.1,ms 22 1 2 aB []])] [(22,true)]) (bA (γ:=Nat) h (fun x_ g_=>aX [(0,V.ref 0 0),(1,vI depth),(4,V.ref 20 0),(5,V.ref 21 0),(6,vI x3),(7,vI x_.2.2.2)] [(0,E.cells [vM rY x_.1,vI x_.2.1]),(20,E.cells [vS [],V.t T.nilS]),(21,E.cells [vS x1.1,ms 22 g_ 2 aB x_.2.2.1]),(22,ar 79 g_ 2 aB x_.2.2.1)] [0,20,21,22]) 1 (lS) ?_))))
  rintro again9 ⟨x4,x5,x6,x7⟩ g8 h
  refine qs (rq hC [] [17,18,19] [(19,vB (decide (x7<x3)))] [] [] (aS h (fun c2 h=> ?_) (fun c2 h=> ?_)))
  ·refine qk (qs (qb ?_))
   obtain⟨x10,hx10,x11,hx11,h⟩:=dG h
   refine rq hC [.z (.int 0),oC [0] [] (aZ G hx10),oC [] [23] (dB G hx11),.z (.nat 24)] [8,22,23,24,25] [(8,V.ref 24 0)] [(0,sR x10.2),(23,some (ar 3 1 1 rI x11.coefs)),(24,sc [ms 23 1 1 rI x11.coefs,vI x11.const])] [(0,true),(23,true),(24,true)] (vj h (fun x_=>aX [(0,V.ref 0 0),(1,vI depth),(4,V.ref 20 0),(5,V.ref 21 0),(6,vI x3),(7,vI x7),(8,V.ref 24 0)] [(0,E.cells [vM rY x_.1,vI x_.2.1]),(20,E.cells [vS [],V.t T.nilS]),(21,E.cells [vS x1.1,ms 22 g8 2 aB x6]),(22,ar 79 g8 2 aB x6),(24,E.cells [vM rI x_.2.2.1,vI x_.2.2.2])] [0,20,21,22,23,24]) (fun j12 h=> ?_) ?_)
   ·
    refine vj h (fun x_=>aX [(0,V.ref 0 0),(1,vI depth),(4,V.ref 20 0),(5,V.ref 21 0),(6,vI x3),(7,vI x7),(8,V.ref 24 0),(32,vB x_.2.2)] [(0,E.cells [vM rY x_.1,vI x_.2.1]),(20,E.cells [vS [],V.t T.nilS]),(21,E.cells [vS x1.1,ms 22 g8 2 aB x6]),(22,ar 79 g8 2 aB x6),(23,ar 3 1 1 rI x11.coefs),(24,E.cells [ms 23 1 1 rI x11.coefs,vI x11.const])] [0,20,21,22,23,24]) (fun j13 h=> ?_) ?_
    ·
     refine aR h (fun c3 h=> ?_) (fun c3 h=> ?_)
     ·exact rk hC (rF 4 c3) (fr 26 7) [(32,vB false)] [] [] (lE h)
     ·obtain⟨x14,hx14,h⟩:=bd h
      exact rk hC [oT c3,oT c3,oC [0] [] (bP G hx14),oT c3,oT c3] (fr 26 7) [(32,vB (decide ((0:Int)<x14.1)))] [(0,sR x14.2)] [(0,true)] (lE h)
    ·rintro⟨x15,x16,x17⟩ h
     refine aS h (fun c4 h=> ?_) (fun c4 h=> ?_)
     ·obtain⟨x18,hx18,h⟩:=bd h
      refine rq hC [oC [0] [] (bP G hx18)] [9,33,34,35] [(9,vI x18.1)] [(0,sR x18.2)] [(0,true)] ?_
      obtain⟨x19,hx19,x20,hx20,x21,hx21,h⟩:=lC h
      obtain⟨x22,hx22,x23,hx23,h⟩:=dG h
      exact rk hC [oC [] [25] (qG G hx19),.z (.int 0),oC [0] [] (aZ G hx20),.z (.int 0),oC [0] [] (aZ G hx21),oC [] [26] (dB G hx22),.z (.at 2),.z (.fz 25 [37] []),.z (.at 2),.z (.fz 26 [44] []),oC [] [27] (uY G hx23)] (fr 36 10) [] [(25,none),(0,sR x21.2),(26,none),(27,some (ar 3 1 1 rI x23.coefs)),(24,sc [ms 27 1 1 rI x23.coefs,vI x23.const])] [(25,true),(0,true),(0,true),(26,true),(27,true)] ⟨(x21.2.b,x21.2.p,x23.coefs,x23.const),h,((lk hC [.fz 27 [] [24]] [] [] [(24,some (E.cells (aT x23))),(27,none)] []).trans (lS))⟩
     ·exact qk ⟨(x15,x16,x11.coefs,x11.const),h,((lk hC [.fz 23 [] [24]] [] [] [(24,some (E.cells (aT x11))),(23,none)] []).trans (lS))⟩
   ·rintro⟨x24,x25,x26,x27⟩ h
    obtain⟨x28,hx28,h⟩:=bd h
    exact rk hC [.z (.int 0),oA (aO aB hx28),oQ (bW (r:=aB) 2 bC x6),oQ (bW (r:=aB) 2 bC [(⟨x26,x27⟩:Affine)])] (fr 46 6) [] [(22,some (ar 79 (g8+1) 2 aB x28)),(21,sc [vS x1.1,ms 22 (g8+1) 2 aB x28])] [] (rk hC [] [7,20,21] [(7,vI (wr (x7+1)))] [] [] ⟨(x24,x25,x28,wr (x7+1)),(g8+1),h,lS⟩)
  ·obtain rfl:=so h
   exact cU (rq hC [.z (.at 2),.z (.fz 22 [] [21])] [52] [] [(21,sc [vS x1.1,vM aB x6]),(22,none),(20,sc [vS x1.1,vM aB x6])] [] (qr eW))
theorem aDB{r_a0}{depth}{r}(h:pQ n r_a0 depth=some r):VQ G 383 [eL r_a0] [V.ref 0 0,vI depth] (V.agg (aT r.1)) [eL r.2]:=by
 unfold pQ at h
 refine vq aN Tryz.func383 rfl fun w X β0 hC hg=> ?_
 refine rq hC [.z (.nat 20)] [4] [(4,V.ref 20 0)] [(20,sc [V.t T.nilS,vI 0])] [(20,true)] ?_
 obtain⟨x1,hx1,x2,hx2,h⟩:=dG h
 refine rq hC [.z (.int 0),oC [0] [] (aZ G hx1),oC [] [21] (dB G hx2),.z (.nat 22)] [5,7,8,9,10] [(5,V.ref 22 0)] [(0,sR x1.2),(21,some (ar 3 1 1 rI x2.coefs)),(22,sc [ms 21 1 1 rI x2.coefs,vI x2.const])] [(0,true),(21,true),(22,true)] (qs (rq hC [] [6] [(6,vI 0)] [] [] (qb (bA (γ:=Nat) h (fun x_ g_=>aX [(0,V.ref 0 0),(1,vI depth),(4,V.ref 20 0),(5,V.ref 22 0),(6,vI x_.2.2.2)] [(0,E.cells [vM rY x_.1,vI x_.2.1]),(20,E.cells [V.t T.nilS,vI 0]),(21,ar 3 g_ 1 rI x_.2.2.1),(22,E.cells [ms 21 g_ 1 rI x_.2.2.1,vI x2.const])] [0,20,21,22]) 1 (lS) ?_))))
 rintro again8 ⟨x3,x4,x5,x6⟩ g7 h
 refine qs (rq hC [] [11,12,13] [(13,vB (decide (x6<depth)))] [] [] (aS h (fun c1 h=> ?_) (fun c1 h=> ?_)))
 ·refine qk (qs (qb ?_))
  obtain⟨x9,hx9,x10,hx10,x11,hx11,h⟩:=lC h
  exact dk hC bL [.z (.int 0),oC [0] [] (aZ G hx9),oQ (mP rI hx10),oX rI hx10,.z (.rows (List.map rI x11)),oQ (str rI hx11)] (fr 16 7) [] [(0,sR x9.2),(21,some (ar 3 g7 1 rI x11))] [(0,true)] (qw (lpP hC [.lenc 22 0 (List.map rI x11).length] [] [] [(22,sc [ms 21 g7 1 rI x11,vI x2.const])] [] (a1 (uO rI hx11)) (by kernel_rfl)) (rk hC [] [6,14,15] [(6,vI (wr (x6+1)))] [] [] ⟨(x9.2.b,x9.2.p,x11,wr (x6+1)),g7,h,lS⟩))
 ·obtain rfl:=so h
  exact cU (rq hC [.z (.at 2),.z (.fz 21 [] [22])] [23] [] [(22,sc [vM rI x5,vI x2.const]),(21,none),(20,sc [vM rI x5,vI x2.const])] [] (qr eW))
theorem aBR(G:GS): ∀(n:Nat) (r_a0:L16Rd) (depth:Int) (levels:Int) {r:Expr×L16Rd} (h:s_l3Value n r_a0 depth levels=some r),VQ G 367 [eL r_a0] [V.ref 0 0,vI depth,vI levels] (V.agg (dJ r.1)) [eL r.2]:=by
 intro n
 induction n with
 |zero=>intro r_a0 depth levels r h;rw [s_l3Value.eq_def] at h;cases h
 |succ n ih=>
  intro r_a0 depth levels r h
  rw [s_l3Value.eq_def] at h;dsimp only at h
  refine vq aN Tryz.func367 rfl fun w X β0 hC hg=> ?_
  refine rq hC [.z (.nat 20)] [6] [(6,V.ref 20 0)] [(20,sc [vI 0,vI 0,V.t T.nilS,vI 0,vS [],V.t T.nilS,V.t T.nilS])] [(20,true)] (qs (vj h (fun x_=>aX [(0,V.ref 0 0),(1,vI depth),(2,vI levels),(6,V.ref 20 0),(15,vB x_.2.2)] [(0,E.cells [vM rY x_.1,vI x_.2.1]),(20,E.cells [vI 0,vI 0,V.t T.nilS,vI 0,vS [],V.t T.nilS,V.t T.nilS])] [0,20]) (fun j1 h=> ?_) ?_))
  ·
   refine aR h (fun c1 h=> ?_) (fun c1 h=> ?_)
   ·obtain⟨x2,hx2,h⟩:=bd h
    exact rk hC [oF c1,oF c1,oC [0] [] (bP G hx2),oF c1,oF c1] (fr 9 7) [(15,vB (decide (x2.1=0)))] [(0,sR x2.2)] [(0,true)] (lE h)
   ·exact rk hC (rT 4 c1) (fr 9 7) [(15,vB true)] [] [] (lE h)
  ·rintro⟨x3,x4,x5⟩ h
   refine aS h (fun c2 h=> ?_) (fun c2 h=> ?_)
   ·refine qs ?_
    obtain⟨x6,hx6,h⟩:=bd h
    refine rq hC [oC [0] [] (bP G hx6)] [16,17] [(17,vI x6.1)] [(0,sR x6.2)] [(0,true)] (qb (rq hC [] [18,19] [(18,vB (decide (x6.1=0)))] [] [] (aS h (fun c3 h=> ?_) (fun c3 h=> ?_))))
    ·obtain⟨x7,hx7,h⟩:=bd h
     obtain rfl:=so h
     exact rq hC [.z (.int 0),oC [0] [] (aZ G hx7)] (fr 20 4) [] [(0,sR x7.2),(20,sc [vI 1,vI x7.1,V.t T.nilS,vI 0,vS [],V.t T.nilS,V.t T.nilS])] [(0,true)] (qr eW)
    ·refine rq hC [] [24,25] [(24,vB (decide (x6.1=1)))] [] [] (aS h (fun c4 h=> ?_) (fun c4 h=> ?_))
     ·obtain⟨x8,hx8,h⟩:=bd h
      obtain rfl:=so h
      exact rq hC [oC [0] [] (aDB G hx8)] (fr 26 4) [] [(0,sR x8.2),(20,sc [vI 2,vI 0,vM rI x8.1.coefs,vI x8.1.const,vS [],V.t T.nilS,V.t T.nilS])] [(0,true)] (qr eW)
     ·refine qk ?_
      obtain⟨x9,hx9,h⟩:=bd h
      obtain rfl:=so h
      exact rq hC [oC [0] [] (N9 G hx9)] (fr 30 4) [] [(0,sR x9.2),(20,sc [vI 3,vI 0,V.t T.nilS,vI 0,vS x9.1.array,vM aB x9.1.subs,V.t T.nilS])] [(0,true)] (qr eW)
   ·refine qk ?_
    obtain⟨x10,hx10,h⟩:=bd h
    refine rq hC [.z (.int 0),oC [0] [] (aZ G hx10),.z (.nat 21)] [7,34,35,36,37] [(7,V.ref 21 0)] [(0,sR x10.2),(21,sc [vI x10.1,vI 0,V.t T.nilS,vI 0,vS [],V.t T.nilS,V.t T.nilS])] [(0,true),(21,true)] (qs (rq hC [] [8] [(8,vI 0)] [] [] (qb (qw (lk hC [.growc 21 6 22 82] [] [] [(22,some (ar 82 1 7 aK [])),(21,sc [vI x10.1,vI 0,V.t T.nilS,vI 0,vS [],V.t T.nilS,ms 22 1 7 aK []])] [(22,true)]) (bA (γ:=Nat) h (fun x_ g_=>aX [(0,V.ref 0 0),(1,vI depth),(2,vI levels),(6,V.ref 20 0),(7,V.ref 21 0),(8,vI x_.2.2.2)] [(0,E.cells [vM rY x_.1,vI x_.2.1]),(20,E.cells [vI 0,vI 0,V.t T.nilS,vI 0,vS [],V.t T.nilS,V.t T.nilS]),(21,E.cells [vI x10.1,vI 0,V.t T.nilS,vI 0,vS [],V.t T.nilS,ms 22 g_ 7 aK x_.2.2.1]),(22,ar 82 g_ 7 aK x_.2.2.1)] [0,20,21,22]) 1 (lS) ?_)))))
    rintro again16 ⟨x11,x12,x13,x14⟩ g15 h
    refine qs (rq hC [] [38,39] [(39,vB (decide (x14<2)))] [] [] (aS h (fun c5 h=> ?_) (fun c5 h=> ?_)))
    ·refine qk (qs (qb ?_))
     obtain⟨x17,hx17,x18,hx18,h⟩:=dG h
     exact dk hC bL [oC [0] [] (ih (⟨x11,x12⟩:L16Rd) depth (wr (levels-1)) hx17),.z (.int 2),.z (.rows (List.map aK [x17.1])),oQ (xV x17.1),oA (aO aK hx18),oQ (bW (r:=aK) 7 gM x13),oQ (bW (r:=aK) 7 gM [x17.1])] (fr 42 10) [] [(0,sR x17.2),(22,some (ar 82 (g15+1) 7 aK x18)),(21,sc [vI x10.1,vI 0,V.t T.nilS,vI 0,vS [],V.t T.nilS,ms 22 (g15+1) 7 aK x18])] [(0,true)] (rk hC [] [8,40,41] [(8,vI (wr (x14+1)))] [] [] ⟨(x17.2.b,x17.2.p,x18,wr (x14+1)),(g15+1),h,lS⟩)
    ·obtain rfl:=so h
     exact cU (rq hC [.z (.at 2),.z (.fz 22 [] [21])] [52] [] [(21,sc [vI x10.1,vI 0,V.t T.nilS,vI 0,vS [],V.t T.nilS,vM aK x13]),(22,none),(20,sc [vI x10.1,vI 0,V.t T.nilS,vI 0,vS [],V.t T.nilS,vM aK x13])] [] (qr eW))
theorem aDu{r_a0}{depth}{r}(h:s5 n r_a0 depth=some r):VQ G 337 [eL r_a0] [V.ref 0 0,vI depth] (V.agg (cV r.1)) [eL r.2]:=by
 unfold s5 at h
 refine vq aN Tryz.func337 rfl fun w X β0 hC hg=> ?_
 refine rq hC [.z (.nat 20)] [4] [(4,V.ref 20 0)] [(20,sc [vS [],V.t T.nilS,vI 0,vI 0,V.t T.nilS,vI 0,vS [],V.t T.nilS,V.t T.nilS])] [(20,true)] ?_
 obtain⟨x1,hx1,x2,hx2,x3,hx3,h⟩:=lC h
 refine rq hC [oC [0] [] (N9 G hx1),.z (.int 0),oC [0] [] (aZ G hx2),oC [0] [] (aBR G n x2.2 depth x2.1 hx3),.z (.nat 21)] (fr 5 11) [(5,V.ref 21 0)] [(0,sR x3.2),(21,sc [vS x1.1.array,vM aB x1.1.subs,vI x3.1.kind,vI x3.1.num,vM rI x3.1.index.coefs,vI x3.1.index.const,vS x3.1.read.array,vM aB x3.1.read.subs,vM aK x3.1.kids])] [(0,true),(0,true),(0,true),(21,true)] (qs ?_)
 obtain⟨x4,hx4,h⟩:=bd h
 refine rq hC [oV (pC G hx4)] [16,17,18] [(18,vB x4)] [] [] (aS h (fun c1 h=> ?_) (fun c1 h=> ?_))
 ·obtain rfl:=so h
  exact rq hC [] [19] [] [(20,sc [vS x1.1.array,vM aB x1.1.subs,vI x3.1.kind,vI x3.1.num,vM rI x3.1.index.coefs,vI x3.1.index.const,vS x3.1.read.array,vM aB x3.1.read.subs,vM aK x3.1.kids])] [] (qr eW)
 ·refine qk ?_
  obtain⟨x5,hx5,h⟩:=bd h
  obtain rfl:=so h
  exact rq hC [oC [] [22] (lZ G n hx5),.z (.at 5),.z (.fz 22 [20] []),.z (.int 0)] (fr 20 5) [] [(22,none),(20,sc [vS [65],vM aB [x5],vI 1,vI 1,V.t T.nilS,vI 0,vS [],V.t T.nilS,V.t T.nilS])] [(22,true)] (qr eW)
theorem aB0{sizes}{r}(h:t7 n sizes=some r):VQ G 338 [] [vM rI sizes] (V.tup [ms 0 1 2 aD r.1,vB r.2]) [ar 123 1 2 aD r.1]:=by
 unfold t7 at h
 refine vq aN Tryz.func338 rfl fun w X β0 hC hg=> ?_
 refine rq hC [] [2,3] [] [] [] (rq hC [.z (.nat 20)] [4,6] [(4,ms 20 1 2 aD [])] [(20,some (ar 123 1 2 aD []))] [(20,true)] (qs (rq hC [oN rI sizes] [7,8,9] [(9,vB (decide ((4:Int)<(sizes.length:Int))))] [] [] (aS h (fun c1 h=> ?_) (fun c1 h=> ?_)))))
 ·obtain rfl:=so h
  exact rq hC [] [2,3,10] [(2,ms 20 1 2 aD []),(3,vB false)] [] [] (qw (lk hC [.ren 2 20 0] [2] [(2,ms 0 1 2 aD [])] [(0,some (ar 123 1 2 aD [])),(20,none)] [(0,true)]) (qr eW))
 ·refine qk (qs (rq hC [] [5] [(5,vI 0)] [] [] (qb (bA (γ:=Nat) h (fun x_ g_=>aX [(0,vM rI sizes),(4,ms 20 g_ 2 aD x_.1),(5,vI x_.2)] [(20,ar 123 g_ 2 aD x_.1)] [20]) 1 (lS) ?_))))
  rintro again4 ⟨x1,x2⟩ g3 h
  refine qs (rq hC [oN rI sizes] (fr 11 4) [(14,vB (decide (x2<(sizes.length:Int))))] [] [] (aS h (fun c2 h=> ?_) (fun c2 h=> ?_)))
  ·refine qk (qs (qb (qs (vj h (fun x_=>aX [(0,vM rI sizes),(4,ms 20 g3 2 aD x1),(5,vI x2),(28,vB x_)] [(20,ar 123 g3 2 aD x1)] [20]) (fun j5 h=> ?_) (fun x7 h=> ?_)))))
   ·
    obtain⟨x6,hx6,h⟩:=bd h
    refine aR h (fun c3 h=> ?_) (fun c3 h=> ?_)
    ·exact rk hC ([oR rI hx6]++rF 3 c3++[oR rI hx6]++rF 3 c3) (fr 17 12) [(28,vB (decide ((99:Int)<x6)))] [] [] (lE h)
    ·exact rk hC ([oR rI hx6]++rT 6 c3) (fr 17 12) [(28,vB true)] [] [] (lE h)
   ·refine aS h (fun c4 h=> ?_) (fun c4 h=> ?_)
    ·obtain rfl:=so h
     exact rq hC [.z (.nat 21)] [2,3,29] [(2,ms 21 1 2 aD []),(3,vB false)] [(21,some (ar 123 1 2 aD []))] [(21,true)] (qw (lk hC [.ren 2 21 0] [2] [(2,ms 0 1 2 aD [])] [(0,some (ar 123 1 2 aD [])),(21,none)] [(0,true)]) (qr eW))
    ·refine qk ?_
     obtain⟨x8,hx8,x9,hx9,x10,hx10,h⟩:=lC h
     obtain⟨x11,hx11,h⟩:=bd h
     exact dk hC bL [oC [] [21] (lZ G n hx8),.z (.at 11),.z (.fz 21 [31] []),.z (.int 0),oR rI hx9,oC [] [22] (dB G hx10),.z (.at 5),.z (.fz 22 [37] []),.z (.int 0),.z (.int 0),oA (aO aD hx11),oQ (bW (r:=aD) 2 dA x1),oQ (bW (r:=aD) 2 dA [(⟨[x8],[x10]⟩:Loop)])] [4,30,31,32,33,34,35,36,37,38,39,40,41] [(4,ms 20 (g3+1) 2 aD x11)] [(21,none),(22,none),(20,some (ar 123 (g3+1) 2 aD x11))] [(21,true),(22,true)] (rk hC [] [5,15,16] [(5,vI (wr (x2+1)))] [] [] ⟨(x11,wr (x2+1)),(g3+1),h,lS⟩)
  ·obtain rfl:=so h
   exact cU (rq hC [] [2,3,42] [(2,ms 20 g3 2 aD x1),(3,vB true)] [] [] (qw (lk hC [.ren 2 20 0] [2] [(2,ms 0 1 2 aD x1)] [(0,some (ar 123 1 2 aD x1)),(20,none)] [(0,true)]) (qr eW)))
theorem aDt{r_a0}{r}(h:sZ n r_a0=some r):VQ G 296 [eL r_a0] [V.ref 0 0] (V.agg (mL r.1)) [eL r.2]:=by
 unfold sZ at h
 refine vq aN Tryz.func296 rfl fun w X β0 hC hg=> ?_
 refine rq hC [.z (.nat 20)] [2] [(2,V.ref 20 0)] [(20,sc [V.t T.nilS,V.t T.nilS])] [(20,true)] (qs (rq hC [] [3] [(3,vI 0)] [] [] (qb (jZ h (fun x_=>aX [(0,V.ref 0 0),(2,V.ref 20 0),(3,vI x_.2.2)] [(0,E.cells [vM rY x_.1,vI x_.2.1]),(20,E.cells [V.t T.nilS,V.t T.nilS])] [0,20]) lS ?_))))
 rintro again4 ⟨x1,x2,x3⟩ h
 refine qs (rq hC [] [16,17] [(17,vB (decide (x3<4)))] [] [] (aS h (fun c1 h=> ?_) (fun c1 h=> ?_)))
 ·refine qk (qs (qb ?_))
  obtain⟨x5,hx5,h⟩:=bd h
  refine rq hC [oC [0] [21] (aDx G hx5),.z (.nat 22)] [4,20,21,22] [(4,V.ref 22 0)] [(21,some (ar 123 1 2 aD x5.1)),(0,sR x5.2),(22,sc [ms 21 1 2 aD x5.1,V.t T.nilS])] [(0,true),(21,true),(22,true)] (qs ?_)
  obtain⟨x6,hx6,h⟩:=bd h
  refine rq hC [.z (.int 0),oC [0] [] (aZ G hx6)] [5,23,24,25] [(5,vI x6.1)] [(0,sR x6.2)] [(0,true)] (qb (qw (lk hC [.fz 21 [] [22]] [] [] [(22,sc [vM aD x5.1,V.t T.nilS]),(21,none)] []) (qw (lk hC [.growc 22 1 23 84] [] [] [(23,some (ar 84 1 9 aI [])),(22,sc [vM aD x5.1,ms 23 1 9 aI []])] [(23,true)]) (bA (γ:=Nat) h (fun x_ g_=>aX [(0,V.ref 0 0),(2,V.ref 20 0),(3,vI x3),(4,V.ref 22 0),(5,vI x_.2.2.2.2)] [(0,E.cells [vM rY x_.1,vI x_.2.1]),(20,E.cells [V.t T.nilS,V.t T.nilS]),(22,E.cells [vM aD x_.2.2.1,ms 23 g_ 9 aI x_.2.2.2.1]),(23,ar 84 g_ 9 aI x_.2.2.2.1)] [0,20,21,22,23]) 1 (lS) ?_))))
  rintro again13 ⟨x7,x8,x9,x10,x11⟩ g12 h
  refine qs (rq hC [] [26,27] [(27,vB (decide ((0:Int)<x11)))] [] [] (aS h (fun c2 h=> ?_) (fun c2 h=> ?_)))
  ·refine qk ?_
   obtain⟨j14,hj14,h⟩:=C0 h
   refine lF (γ:=Nat) (j:=j14) (r:=r) (fun x_ g_=>aX [(0,V.ref 0 0),(2,V.ref 20 0),(3,vI x3),(4,V.ref 22 0),(5,vI x11)] [(0,E.cells [vM rY x_.1,vI x_.2.1]),(20,E.cells [V.t T.nilS,V.t T.nilS]),(22,E.cells [vM aD x9,ms 23 g_ 9 aI x_.2.2]),(23,ar 84 g_ 9 aI x_.2.2)] [0,20,21,22,23]) ?_ ?_
   ·
    refine qb (rq hC [] [6] [(6,vI 0)] [] [] (qb (jZ h (fun x_=>aX [(0,V.ref 0 0),(2,V.ref 20 0),(3,vI x3),(4,V.ref 22 0),(5,vI x11),(6,vI x_.2.2)] [(0,E.cells [vM rY x_.1,vI x_.2.1]),(20,E.cells [V.t T.nilS,V.t T.nilS]),(22,E.cells [vM aD x9,ms 23 g12 9 aI x10]),(23,ar 84 g12 9 aI x10)] [0,20,21,22,23]) lS ?_)))
    rintro again18 ⟨x15,x16,x17⟩ h
    refine qs (rq hC [] [30,31] [(31,vB (decide (x17<5)))] [] [] (aS h (fun c3 h=> ?_) (fun c3 h=> ?_)))
    ·refine qk (qs (qb ?_))
     obtain⟨x19,hx19,h⟩:=bd h
     refine rq hC [oN aD x9,oC [0] [] (aDu G hx19),.z (.nat 24)] [7,34,35,36,37,38] [(7,V.ref 24 0)] [(0,sR x19.2),(24,some (E.cells (cV x19.1)))] [(0,true),(24,true)] (qs ?_)
     obtain⟨x20,hx20,x21,hx21,h⟩:=dG h
     refine dk hC bL [oV (rC G n hx20),.z (.int 1),.z (.nat 25),.z (.at 7),.z (.fz 25 [44] []),oV (vZ G hx21)] [8,9,39,40,41,42,43,44,45,46,47,48] [(9,vB x21.2)] [(25,none)] [(25,true)] (rq hC [] [49] [(49,vB x21.2)] [] [] (aS h (fun c4 h=> ?_) (fun c4 h=> ?_)))
     ·obtain⟨x22,hx22,h⟩:=bd h
      exact rq hC [.z (.int 0),oA (aO aI hx22),oQ (bW (r:=aI) 9 cJ x10),oQ (bW (r:=aI) 9 cJ [x19.1])] (fr 50 6) [] [(23,some (ar 84 (g12+1) 9 aI x22)),(22,sc [vM aD x9,ms 23 (g12+1) 9 aI x22])] [] (cU ⟨(x19.2.b,x19.2.p,x22),(g12+1),h,lS⟩)
     ·exact qk (rk hC [] [6,32,33] [(6,vI (wr (x17+1)))] [] [] (lE h))
    ·exact cU ⟨(x15,x16,x10),g12,h,lS⟩
   ·rintro⟨x23,x24,x25⟩ g26 h
    subst hj14
    exact rk hC [] [5,28,29] [(5,vI (wr (x11-1)))] [] [] ⟨(x23,x24,x9,x25,wr (x11-1)),g26,h,lS⟩
  ·refine cU (qs ?_)
   obtain⟨x27,hx27,x28,hx28,h⟩:=dG h
   refine dk hC bL [oV (rC G n hx27),.z (.at 7),.z (.fz 23 [] [22]),oV (vZ G hx28)] [10,11,56,57,58,59,60,61] [(10,vI x28.1),(11,vB x28.2)] [(22,sc [vM aD x9,vM aI x10]),(23,none)] [] (vj h (fun x_=>aX [(0,V.ref 0 0),(2,V.ref 20 0),(3,vI x3),(4,V.ref 22 0),(66,vB x_)] [(0,E.cells [vM rY x7,vI x8]),(20,E.cells [V.t T.nilS,V.t T.nilS]),(22,E.cells [vM aD x9,vM aI x10])] [0,20,21,22,23]) (fun j29 h=> ?_) (fun x30 h=> ?_))
   ·
    refine aR h (fun c5 h=> ?_) (fun c5 h=> ?_)
    ·exact rk hC (rF 3 c5) (fr 62 5) [(66,vB false)] [] [] (lE h)
    ·exact rk hC (rT 3 c5) (fr 62 5) [(66,vB (decide (x28.1≤40)))] [] [] (lE h)
   ·refine aS h (fun c6 h=> ?_) (fun c6 h=> ?_)
    ·obtain rfl:=so h
     exact rq hC [] [67] [] [(20,sc [vM aD x9,vM aI x10])] [] (qr eW)
    ·exact qk (rk hC [] [3,18,19] [(3,vI (wr (x3+1)))] [] [] (lE h))
 ·refine cU ?_
  obtain⟨x31,hx31,h⟩:=bd h
  refine rq hC [oV (uZ G hx31),.z (.nat 21)] [12,13,68,69,70,71] [(12,V.ref 21 0)] [(21,some (E.cells (cV x31.1)))] [(21,true)] ?_
  obtain⟨x32,hx32,h⟩:=bd h
  obtain rfl:=so h
  exact rq hC [.z (.int 0),oC [] [22] (aB0 G hx32)] [14,15,72,73,74,75,76] [(14,ms 22 1 2 aD x32.1)] [(22,some (ar 123 1 2 aD x32.1))] [(22,true)] (rq hC [.z (.int 1),.z (.nat 23)] (fr 77 4) [] [(23,some (ar 84 1 9 aI [x31.1])),(20,sc [ms 22 1 2 aD x32.1,ms 23 1 9 aI [x31.1]])] [(23,true)] (qw (lk hC [.fz 22 [14] [20]] [14] [(14,vM aD x32.1)] [(20,sc [vM aD x32.1,ms 23 1 9 aI [x31.1]]),(22,none)] []) (qw (lk hC [.fz 23 [] [20]] [] [] [(20,sc [vM aD x32.1,vM aI [x31.1]]),(23,none)] []) (qr eW))))
theorem aDs{r_a0}{r}(h:sY n r_a0=some r):VQ G 231 [eL r_a0] [V.ref 0 0] (V.agg (bD r.1)) [eL r.2]:=by
 unfold sY at h
 refine vq aN Tryz.func231 rfl fun w X β0 hC hg=> ?_
 refine rq hC [.z (.nat 20)] [2] [(2,V.ref 20 0)] [(20,sc [V.t T.nilS,V.t T.nilS])] [(20,true)] ?_
 obtain⟨x1,hx1,h⟩:=bd h
 refine rq hC [oV (rC G n hx1),.z (.nat 21)] [3,5,6] [(3,V.ref 21 0)] [(21,sc [vM aH x1,V.t T.nilS])] [(21,true)] (qs ?_)
 obtain⟨x2,hx2,h⟩:=bd h
 refine rq hC [.z (.int 0),oC [0] [] (aZ G hx2)] [4,7,8,9] [(4,vI x2.1)] [(0,sR x2.2)] [(0,true)] (qb (qw (lk hC [.growc 21 1 22 46] [] [] [(22,some (ar 46 1 2 aC [])),(21,sc [vM aH x1,ms 22 1 2 aC []])] [(22,true)]) (bA (γ:=Nat) h (fun x_ g_=>aX [(0,V.ref 0 0),(2,V.ref 20 0),(3,V.ref 21 0),(4,vI x_.2.2.2)] [(0,E.cells [vM rY x_.1,vI x_.2.1]),(20,E.cells [V.t T.nilS,V.t T.nilS]),(21,E.cells [vM aH x1,ms 22 g_ 2 aC x_.2.2.1]),(22,ar 46 g_ 2 aC x_.2.2.1)] [0,20,21,22]) 1 (lS) ?_)))
 rintro again8 ⟨x3,x4,x5,x6⟩ g7 h
 refine qs (rq hC [] [10,11] [(11,vB (decide ((0:Int)<x6)))] [] [] (aS h (fun c1 h=> ?_) (fun c1 h=> ?_)))
 ·refine qk (qs (qb ?_))
  obtain⟨x9,hx9,x10,hx10,h⟩:=dG h
  exact dk hC bL [oC [0] [] (aDt G hx9),.z (.int 0),oA (aO aC hx10),oQ (bW (r:=aC) 2 b6 x5),oQ (bW (r:=aC) 2 b6 [x9.1])] (fr 14 7) [] [(0,sR x9.2),(22,some (ar 46 (g7+1) 2 aC x10)),(21,sc [vM aH x1,ms 22 (g7+1) 2 aC x10])] [(0,true)] (rk hC [] [4,12,13] [(4,vI (wr (x6-1)))] [] [] ⟨(x9.2.b,x9.2.p,x10,wr (x6-1)),(g7+1),h,lS⟩)
 ·refine cU (qs ?_)
  obtain⟨x11,hx11,h⟩:=bd h
  refine rq hC [.z (.at 2),.z (.fz 22 [] [21]),oV (cS G hx11)] [21,22] [(22,vB x11)] [(21,sc [vM aH x1,vM aC x5]),(22,none)] [] (aS h (fun c2 h=> ?_) (fun c2 h=> ?_))
  ·obtain rfl:=so h
   exact rq hC [] [23] [] [(20,sc [vM aH x1,vM aC x5])] [] (qr eW)
  ·refine qk (qs ?_)
   obtain⟨x12,hx12,x13,hx13,h⟩:=dG h
   obtain rfl:=so h
   exact dk hC bL [oV (rC G n hx12),oA (tZ aC hx13),oQ (bW (r:=aC) 2 b6 x5)] (fr 24 5) [] [(20,sc [vM aH x12,vM aC x13])] [] (qr eW)
theorem aDm{r_a0}{r}(h:sQ n r_a0=some r):VQ G 155 [eL r_a0] [V.ref 0 0] (V.agg (bD r.1)) [eL r.2]:=by
 unfold sQ at h
 refine vq aN Tryz.func155 rfl fun w X β0 hC hg=> ?_
 refine rq hC [.z (.nat 20)] [2] [(2,V.ref 20 0)] [(20,sc [V.t T.nilS,V.t T.nilS])] [(20,true)] ?_
 obtain⟨x1,hx1,h⟩:=bd h
 refine rq hC [.z (.int 0),oC [0] [] (nA G hx1)] [3,6,7,8] [(3,vS x1.1)] [(0,sR x1.2)] [(0,true)] ?_
 obtain⟨x2,hx2,x3,hx3,h⟩:=dG h
 refine rq hC [oS hx2,oV (zO G hx3),.z (.nat 21)] [4,5,9,10,11,12,13,14] [(4,V.ref 21 0),(5,vB x3.2)] [(21,some (E.cells (bD x3.1)))] [(21,true)] (qs (vj h (fun x_=>aX [(0,V.ref 0 0),(2,V.ref 20 0),(4,V.ref 21 0),(20,vB x_.2.2)] [(0,E.cells [vM rY x_.1,vI x_.2.1]),(20,E.cells [V.t T.nilS,V.t T.nilS]),(21,E.cells (bD x3.1))] [0,20,21]) (fun j4 h=> ?_) ?_))
 ·
  refine aR h (fun c1 h=> ?_) (fun c1 h=> ?_)
  ·exact rk hC (rF 4 c1) (fr 15 6) [(20,vB false)] [] [] (lE h)
  ·obtain⟨x5,hx5,h⟩:=bd h
   exact rk hC [oT c1,oT c1,oC [0] [] (bP G hx5),oT c1,oT c1] (fr 15 6) [(20,vB (decide ((0:Int)<x5.1)))] [(0,sR x5.2)] [(0,true)] (lE h)
 ·rintro⟨x6,x7,x8⟩ h
  refine aS h (fun c2 h=> ?_) (fun c2 h=> ?_)
  ·obtain rfl:=so h
   exact rq hC [] [21] [] [(20,some (E.cells (bD x3.1)))] [] (qr eW)
  ·refine qk ?_
   obtain⟨x9,hx9,h⟩:=bd h
   obtain rfl:=so h
   exact rq hC [oC [0] [] (aDs G hx9)] [22,23] [] [(0,sR x9.2),(20,some (E.cells (bD x9.1)))] [(0,true)] (qr eW)
theorem aBZ{code}{r}(h:pR n code=some r):VQ G 62 [] [vM rY code] (V.ref 0 0) [eL r]:=by
 unfold pR at h
 refine vq aN Tryz.func62 rfl fun w X β0 hC hg=> ?_
 refine rq hC [] [2] [] [] [] (vj h (fun x_=>aX [(0,vM rY x_)] [] []) (fun j1 h=> ?_) (fun x3 h=> ?_))
 ·
  refine rq hC [oN rY code] [3,4,5] [(5,vB (decide ((2000:Int)<(code.length:Int))))] [] [] (aS h (fun c1 h=> ?_) (fun c1 h=> ?_))
  ·obtain⟨x2,hx2,h⟩:=bd h
   exact rk hC [oA (tZ rY hx2),oQ (bW (r:=rY) 1 (fun _=>rfl) code)] [0,6,7] [(0,vM rY x2)] [] [] (lE h)
  ·exact qk (lE h)
 ·obtain rfl:=so h
  exact rq hC [.z (.nat 0)] [2,8,9,10] [(2,V.ref 0 0)] [(0,sc [vM rY x3,vI 0])] [(0,true)] (qr eW)
theorem rG{r_a0}{nest}{r}(h:jM n r_a0 nest=some r):VQ G 153 [eL r_a0] [V.ref 0 0,vM aD nest] (ms 1 1 2 aD r.1) [eL r.2,ar 123 1 2 aD r.1]:=by
 unfold jM at h
 refine vq aN Tryz.func153 rfl fun w X β0 hC hg=> ?_
 refine rq hC [] [4] [] [] [] ?_
 obtain⟨x1,hx1,h⟩:=bd h
 refine rq hC [oC [] [20] (O2 G hx1)] [5,7,8] [(5,ms 20 1 2 aD x1)] [(20,some (E.tree mM 0 1 (List.map aD x1) []))] [(20,true)] (rq hC [oN aD x1] [6,9,10] [(6,vI (x1.length:Int))] [] [] (qs (rq hC [] [11,12] [(12,vB (decide ((x1.length:Int)=0)))] [] [] (aS h (fun c1 h=> ?_) (fun c1 h=> ?_)))))
 ·obtain rfl:=so h
  exact rq hC [] [4,13] [(4,ms 20 1 2 aD x1)] [] [] (qw (lk hC [.shd 20,.ren 4 20 1] [4] [(4,ms 1 1 2 aD x1)] [(20,none),(1,some (ar 123 1 2 aD x1))] [(1,true)]) (qr eW))
 ·refine qk ?_
  obtain⟨j2,hj2,h⟩:=C0 h
  refine lF (γ:=Nat) (j:=j2) (r:=r) (fun x_ g_=>aX [(5,ms 20 g_ 2 aD x_.2.2)] [(0,E.cells [vM rY x_.1,vI x_.2.1]),(20,ar 123 g_ 2 aD x_.2.2)] [0,20]) ?_ ?_
  ·
   obtain⟨x3,hx3,h⟩:=bd h
   refine rq hC [oC [0] [] (bP G hx3)] [14,15] [(15,vI x3.1)] [(0,sR x3.2)] [(0,true)] (qb (rq hC [] [16,17] [(16,vB (decide (x3.1=0)))] [] [] (aS h (fun c2 h=> ?_) (fun c2 h=> ?_))))
   ·obtain⟨x4,hx4,h⟩:=bd h
    refine qw (lpP hC [.foc 20 21 (0+Int.toNat 0) 0 (aD x4),.shd 21] [] [] [(20,some (E.tree mM 0 1 (List.map aD x1) [((0+Int.toNat 0),0,ms 21 1 2 aB x4.lo)])),(21,some (ar 79 1 2 aB x4.lo))] [(21,true)] (a1 (ixr aD hx4)) (by kernel_rfl)) ?_
    obtain⟨x5,hx5,x6,hx6,x7,hx7,h⟩:=lC h
    refine dk hC bL [oQ (mP aD hx4),oX aD hx4,oC [0] [] (bP G hx5),oC [] [22] (qG G hx6),.z (.at 5),.z (.fz 22 [25] []),.z (.int 0),oA (aO aB hx7),oQ (bW (r:=aB) 2 bC x4.lo),oQ (bW (r:=aB) 2 bC [x6]),oQ (mP aD hx4),oX aD hx4] (fr 18 12) [] [(0,sR x5.2),(22,none),(21,some (ar 79 2 2 aB x7)),(20,some (E.tree mM 0 1 (List.map aD x1) [((0+Int.toNat 0),0,ms 21 2 2 aB x7)]))] [(0,true),(22,true)] ?_
    obtain⟨x8,hx8,h⟩:=bd h
    exact⟨(x5.2.b,x5.2.p,x8),1,h,((lpP hC [.tre 21 mM 1,.unf 20 21 (aD x4) (List.map aD x8),.len 5 (List.map aD x8).length] [5] [(5,ms 20 1 2 aD x8)] [(21,none),(20,some (E.tree mM 0 1 (List.map aD x8) []))] [] (a5 (Eq.refl (List.map aB x7).length) (Eq.refl mM) (ixr aD hx4) (aFV aD hx8 rfl) (uO aD hx8)) (by kernel_rfl)).trans ((lk hC [.shd 20] [] [] [(20,some (ar 123 1 2 aD x8))] []).trans (lS)))⟩
   ·refine rq hC [] [30,31] [(30,vB (decide (x3.1=1)))] [] [] (aS h (fun c3 h=> ?_) (fun c3 h=> ?_))
    ·refine qw (lk hC [.shd 20] [] [] [(20,some (ar 123 1 2 aD x1))] []) ?_
     obtain⟨x9,hx9,x10,hx10,h⟩:=dG h
     exact rk hC [oQ (mP aD hx9),oX aD hx9,.z (.rows (List.map aD x10)),.z (.len 5 (List.map aD x10).length),oQ (str aD hx10),oQ (uO aD hx10)] [5,32,33,34,35,36] [(5,ms 20 1 2 aD x10)] [(20,some (ar 123 1 2 aD x10))] [] ⟨(x3.2.b,x3.2.p,x10),1,h,lS⟩
    ·refine rq hC [] [37,38] [(37,vB (decide (x3.1=2)))] [] [] (aS h (fun c4 h=> ?_) (fun c4 h=> ?_))
     ·obtain⟨x11,hx11,h⟩:=bd h
      refine qw (lpP hC [.foc 20 21 (0+Int.toNat (wr ((x1.length:Int)-1))) 1 (aD x11),.shd 21] [] [] [(20,some (E.tree mM 0 1 (List.map aD x1) [((0+Int.toNat (wr ((x1.length:Int)-1))),1,ms 21 1 2 aB x11.hi)])),(21,some (ar 79 1 2 aB x11.hi))] [(21,true)] (a1 (ixr aD hx11)) (by kernel_rfl)) ?_
      obtain⟨x12,hx12,x13,hx13,x14,hx14,h⟩:=lC h
      refine dk hC bL [oQ (mP aD hx11),oX aD hx11,oC [] [22] (dB G hx12),oC [] [23] (dB G hx13),.z (.at 5),.z (.fz 22 [48] []),.z (.at 5),.z (.fz 23 [49] []),.z (.int 0),oA (aO aB hx14),oQ (bW (r:=aB) 2 bC x11.hi),oQ (bW (r:=aB) 2 bC [x12,x13]),oQ (mP aD hx11),oX aD hx11] (fr 39 15) [] [(22,none),(23,none),(21,some (ar 79 2 2 aB x14)),(20,some (E.tree mM 0 1 (List.map aD x1) [((0+Int.toNat (wr ((x1.length:Int)-1))),1,ms 21 2 2 aB x14)]))] [(22,true),(23,true)] ?_
      obtain⟨x15,hx15,h⟩:=bd h
      exact⟨(x3.2.b,x3.2.p,x15),1,h,((lpP hC [.tre 21 mM 1,.unf 20 21 (aD x11) (List.map aD x15),.len 5 (List.map aD x15).length] [5] [(5,ms 20 1 2 aD x15)] [(21,none),(20,some (E.tree mM 0 1 (List.map aD x15) []))] [] (a5 (Eq.refl (List.map aB x14).length) (Eq.refl mM) (ixr aD hx11) (aFV aD hx15 rfl) (uO aD hx15)) (by kernel_rfl)).trans ((lk hC [.shd 20] [] [] [(20,some (ar 123 1 2 aD x15))] []).trans (lS)))⟩
     ·refine rq hC [] [54,55] [(54,vB (decide (x3.1=3)))] [] [] (aS h (fun c5 h=> ?_) (fun c5 h=> ?_))
      ·refine qw (lk hC [.shd 20] [] [] [(20,some (ar 123 1 2 aD x1))] []) ?_
       obtain⟨x16,hx16,x17,hx17,x18,hx18,h⟩:=lC h
       exact rk hC [oC [] [21] (dB G hx16),.z (.at 4),.z (.fz 21 [57] []),.z (.int 1),.z (.nat 22),.z (.at 1),.z (.fz 22 [58] []),oQ (mP aD hx17),oX aD hx17,.z (.rows (List.map aD x18)),.z (.len 5 (List.map aD x18).length),oQ (str aD hx18),oQ (uO aD hx18)] [5,56,57,58,59,60] [(5,ms 20 1 2 aD x18)] [(21,none),(22,none),(20,some (ar 123 1 2 aD x18))] [(21,true),(22,true)] ⟨(x3.2.b,x3.2.p,x18),1,h,lS⟩
      ·refine rq hC [] [61,62] [(61,vB (decide (x3.1=4)))] [] [] (aS h (fun c6 h=> ?_) (fun c6 h=> ?_))
       ·refine qb (qw (lk hC [.shd 20] [] [] [(20,some (ar 123 1 2 aD x1))] []) (bA (γ:=Nat) h (fun x_ g_=>aX [(5,ms 20 g_ 2 aD x_)] [(0,eL x3.2),(20,ar 123 g_ 2 aD x_)] [0,20]) 1 (lS) ?_))
        rintro again21 x19 g20 h
        refine qs (rq hC [oN aD x19] [63,64,65] [(65,vB (decide ((x19.length:Int)≤4)))] [] [] (aS h (fun c7 h=> ?_) (fun c7 h=> ?_)))
        ·refine qk (qb ?_)
         obtain⟨x22,hx22,x23,hx23,h⟩:=dG h
         exact rk hC [oQ (mP aD hx22),oX aD hx22,.z (.int 0),oA (aO aD hx23),oQ (bW (r:=aD) 2 dA x19),oQ (bW (r:=aD) 2 dA [x22])] [5,66,67,68,69,70,71] [(5,ms 20 (g20+1) 2 aD x23)] [(20,some (ar 123 (g20+1) 2 aD x23))] [] ⟨x23,(g20+1),h,lS⟩
        ·exact cU ⟨(x3.2.b,x3.2.p,x19),g20,h,lS⟩
       ·exact qk ⟨(x3.2.b,x3.2.p,x1),1,h,((lk hC [.shd 20] [] [] [(20,some (ar 123 1 2 aD x1))] []).trans (lS))⟩
  ·rintro⟨x24,x25,x26⟩ g27 h
   subst hj2
   obtain rfl:=so h
   exact rq hC [] [4,72] [(4,ms 20 g27 2 aD x26)] [] [] (qw (lk hC [.ren 4 20 1] [4] [(4,ms 1 1 2 aD x26)] [(1,some (ar 123 1 2 aD x26)),(20,none)] [(1,true)]) (qr eW))
theorem rD{r_a0}{s}{r}(h:jL n r_a0 s=some r):VQ G 154 [eL r_a0] [V.ref 0 0,V.agg (cV s)] (V.agg (cV r.1)) [eL r.2]:=by
 unfold jL at h
 refine vq aN Tryz.func154 rfl fun w X β0 hC hg=> ?_
 refine rq hC [.z (.b (true)),.z (.nat 20)] [3,4] [(3,V.tp (oP s)),(4,V.ref 20 0)] [(20,sc [vS [],V.t T.nilS,vI 0,vI 0,V.t T.nilS,vI 0,vS [],V.t T.nilS,V.t T.nilS])] [(20,true)] ?_
 obtain⟨x1,hx1,h⟩:=bd h
 refine rq hC [oC [] [21,22,23,24] (O1 G hx1),.z (.nat 25)] [5,6,7] [(5,V.ref 25 0)] [(21,some (ar 79 1 2 aB x1.write.subs)),(22,some (ar 3 1 1 rI x1.value.index.coefs)),(23,some (ar 79 1 2 aB x1.value.read.subs)),(24,some (ar 82 1 7 aK x1.value.kids)),(25,sc [vS x1.write.array,ms 21 1 2 aB x1.write.subs,vI x1.value.kind,vI x1.value.num,ms 22 1 1 rI x1.value.index.coefs,vI x1.value.index.const,vS x1.value.read.array,ms 23 1 2 aB x1.value.read.subs,ms 24 1 7 aK x1.value.kids])] [(21,true),(22,true),(23,true),(24,true),(25,true)] ?_
 obtain⟨j2,hj2,h⟩:=C0 h
 refine lF (γ:=Nat×Nat) (j:=j2) (r:=r) (fun x_ g_=>aX [(4,V.ref 20 0),(5,V.ref 25 0)] [(0,E.cells [vM rY x_.1,vI x_.2.1]),(20,E.cells [vS [],V.t T.nilS,vI 0,vI 0,V.t T.nilS,vI 0,vS [],V.t T.nilS,V.t T.nilS]),(21,ar 79 g_.1 2 aB x_.2.2.1),(22,ar 3 1 1 rI x1.value.index.coefs),(23,ar 79 1 2 aB x1.value.read.subs),(24,ar 82 g_.2 7 aK x_.2.2.2.1),(25,E.cells [vS x_.2.2.2.2.1,ms 21 g_.1 2 aB x_.2.2.1,vI x_.2.2.2.2.2.1,vI x_.2.2.2.2.2.2,ms 22 1 1 rI x1.value.index.coefs,vI x1.value.index.const,vS x1.value.read.array,ms 23 1 2 aB x1.value.read.subs,ms 24 g_.2 7 aK x_.2.2.2.1])] [0,20,21,22,23,24,25]) ?_ ?_
 ·
  obtain⟨x3,hx3,h⟩:=bd h
  refine rq hC [oC [0] [] (bP G hx3)] [8,9] [(9,vI x3.1)] [(0,sR x3.2)] [(0,true)] (qb (rq hC [] [10,11] [(10,vB (decide (x3.1=0)))] [] [] (aS h (fun c1 h=> ?_) (fun c1 h=> ?_))))
  ·obtain⟨x4,hx4,h⟩:=bd h
   exact rk hC [.z (.int 0),oC [0] [] (nA G hx4)] (fr 12 5) [] [(0,sR x4.2),(25,sc [vS x4.1,ms 21 1 2 aB x1.write.subs,vI x1.value.kind,vI x1.value.num,ms 22 1 1 rI x1.value.index.coefs,vI x1.value.index.const,vS x1.value.read.array,ms 23 1 2 aB x1.value.read.subs,ms 24 1 7 aK x1.value.kids])] [(0,true)] ⟨(x4.2.b,x4.2.p,x1.write.subs,x1.value.kids,x4.1,x1.value.kind,x1.value.num),(1,1),h,lS⟩
  ·refine rq hC [] [17,18] [(17,vB (decide (x3.1=1)))] [] [] (aS h (fun c2 h=> ?_) (fun c2 h=> ?_))
   ·obtain⟨x5,hx5,x6,hx6,x7,hx7,h⟩:=lC h
    exact dk hC bL [oC [] [26] (qG G hx5),oC [] [27] (lZ G n hx6),.z (.at 5),.z (.fz 26 [22] []),.z (.at 5),.z (.fz 27 [23] []),.z (.int 0),oA (aO aB hx7),oQ (bW (r:=aB) 2 bC x1.write.subs),oQ (bW (r:=aB) 2 bC [x5,x6])] (fr 19 9) [] [(26,none),(27,none),(21,some (ar 79 2 2 aB x7)),(25,sc [vS x1.write.array,ms 21 2 2 aB x7,vI x1.value.kind,vI x1.value.num,ms 22 1 1 rI x1.value.index.coefs,vI x1.value.index.const,vS x1.value.read.array,ms 23 1 2 aB x1.value.read.subs,ms 24 1 7 aK x1.value.kids])] [(26,true),(27,true)] ⟨(x3.2.b,x3.2.p,x7,x1.value.kids,x1.write.array,x1.value.kind,x1.value.num),(2,1),h,lS⟩
   ·refine rq hC [] [28,29] [(28,vB (decide (x3.1=2)))] [] [] (aS h (fun c3 h=> ?_) (fun c3 h=> ?_))
    ·obtain⟨x8,hx8,h⟩:=bd h
     exact rk hC [.z (.int 0),oC [0] [] (aZ G hx8)] (fr 30 5) [] [(0,sR x8.2),(25,sc [vS x1.write.array,ms 21 1 2 aB x1.write.subs,vI x8.1,vI x1.value.num,ms 22 1 1 rI x1.value.index.coefs,vI x1.value.index.const,vS x1.value.read.array,ms 23 1 2 aB x1.value.read.subs,ms 24 1 7 aK x1.value.kids])] [(0,true)] ⟨(x8.2.b,x8.2.p,x1.write.subs,x1.value.kids,x1.write.array,x8.1,x1.value.num),(1,1),h,lS⟩
    ·refine rq hC [] [35,36] [(35,vB (decide (x3.1=3)))] [] [] (aS h (fun c4 h=> ?_) (fun c4 h=> ?_))
     ·obtain⟨x9,hx9,h⟩:=bd h
      exact rk hC [.z (.int 0),oC [0] [] (aZ G hx9)] (fr 37 5) [] [(0,sR x9.2),(25,sc [vS x1.write.array,ms 21 1 2 aB x1.write.subs,vI x1.value.kind,vI x9.1,ms 22 1 1 rI x1.value.index.coefs,vI x1.value.index.const,vS x1.value.read.array,ms 23 1 2 aB x1.value.read.subs,ms 24 1 7 aK x1.value.kids])] [(0,true)] ⟨(x9.2.b,x9.2.p,x1.write.subs,x1.value.kids,x1.write.array,x1.value.kind,x9.1),(1,1),h,lS⟩
     ·refine rq hC [] [42,43] [(42,vB (decide (x3.1=4)))] [] [] (aS h (fun c5 h=> ?_) (fun c5 h=> ?_))
      ·obtain⟨x10,hx10,h⟩:=bd h
       exact rk hC [.z (.int 2),.z (.rows (List.map aK [(⟨1,0,(⟨[],0⟩:Affine),(⟨[],[]⟩:Access),[]⟩:Expr)])),oQ (xV (⟨1,0,(⟨[],0⟩:Affine),(⟨[],[]⟩:Access),[]⟩:Expr)),oA (aO aK hx10),oQ (bW (r:=aK) 7 gM x1.value.kids),oQ (bW (r:=aK) 7 gM [(⟨1,0,(⟨[],0⟩:Affine),(⟨[],[]⟩:Access),[]⟩:Expr)])] (fr 44 8) [] [(24,some (ar 82 2 7 aK x10)),(25,sc [vS x1.write.array,ms 21 1 2 aB x1.write.subs,vI x1.value.kind,vI x1.value.num,ms 22 1 1 rI x1.value.index.coefs,vI x1.value.index.const,vS x1.value.read.array,ms 23 1 2 aB x1.value.read.subs,ms 24 2 7 aK x10])] [] ⟨(x3.2.b,x3.2.p,x1.write.subs,x10,x1.write.array,x1.value.kind,x1.value.num),(1,2),h,lS⟩
      ·exact qk ⟨(x3.2.b,x3.2.p,x1.write.subs,x1.value.kids,x1.write.array,x1.value.kind,x1.value.num),(1,1),h,lS⟩
 ·rintro⟨x11,x12,x13,x14,x15,x16,x17⟩ ⟨g18,g19⟩ h
  subst hj2
  obtain rfl:=so h
  exact rq hC [.z (.at 2),.z (.fz 21 [] [25]),.z (.at 2),.z (.fz 22 [] [25]),.z (.at 2),.z (.fz 23 [] [25]),.z (.at 2),.z (.fz 24 [] [25])] [52] [] [(25,sc [vS x15,vM aB x13,vI x16,vI x17,vM rI x1.value.index.coefs,vI x1.value.index.const,vS x1.value.read.array,vM aB x1.value.read.subs,vM aK x14]),(21,none),(22,none),(23,none),(24,none),(20,sc [vS x15,vM aB x13,vI x16,vI x17,vM rI x1.value.index.coefs,vI x1.value.index.const,vS x1.value.read.array,vM aB x1.value.read.subs,vM aK x14])] [] (qr eW)
theorem aAC{r_a0}{p}{r}(h:nQ n r_a0 p=some r):VQ G 63 [eL r_a0] [V.ref 0 0,V.agg (bD p)] (V.agg (bD r.1)) [eL r.2]:=by
 unfold nQ at h
 refine vq aN Tryz.func63 rfl fun w X β0 hC hg=> ?_
 refine rq hC [.z (.b (true)),.z (.nat 20)] [3,4] [(3,V.tp (bM p)),(4,V.ref 20 0)] [(20,sc [V.t T.nilS,V.t T.nilS])] [(20,true)] ?_
 obtain⟨x1,hx1,h⟩:=bd h
 refine rq hC [oC [] [21,22] (v6 G hx1),.z (.nat 23)] [5,7,8] [(5,V.ref 23 0)] [(21,some (ar 90 1 2 aH x1.arrays)),(22,some (E.tree mM 2 1 (List.map aC x1.parts) [])),(23,sc [ms 21 1 2 aH x1.arrays,ms 22 1 2 aC x1.parts])] [(21,true),(22,true),(23,true)] (rq hC [oN aC x1.parts] [6,9,10,11] [(6,vI (x1.parts.length:Int))] [] [] ?_)
 obtain⟨j2,hj2,h⟩:=C0 h
 refine lF (γ:=Nat) (j:=j2) (r:=r) (fun x_ g_=>aX [(4,V.ref 20 0),(5,V.ref 23 0)] [(0,E.cells [vM rY x_.1,vI x_.2.1]),(20,E.cells [V.t T.nilS,V.t T.nilS]),(21,ar 90 g_ 2 aH x_.2.2.1),(22,ar 46 1 2 aC x_.2.2.2),(23,E.cells [ms 21 g_ 2 aH x_.2.2.1,ms 22 1 2 aC x_.2.2.2])] [0,20,21,22,23]) ?_ ?_
 ·
  obtain⟨x3,hx3,h⟩:=bd h
  refine rq hC [oC [0] [] (bP G hx3)] [12,13] [(13,vI x3.1)] [(0,sR x3.2)] [(0,true)] (qb (rq hC [] [14,15] [(14,vB (decide (x3.1=0)))] [] [] (aS h (fun c1 h=> ?_) (fun c1 h=> ?_))))
  ·obtain⟨x4,hx4,x5,hx5,x6,hx6,h⟩:=lC h
   exact dk hC bL [.z (.int 0),oC [0] [] (nA G hx4),.z (.int 0),oC [0] [] (aZ G hx5),.z (.int 0),.z (.int 0),oA (aO aH hx6),oQ (bW (r:=aH) 2 gH x1.arrays),oQ (bW (r:=aH) 2 gH [(⟨x4.1,[x5.1]⟩:Arr)])] (fr 16 13) [] [(0,sR x5.2),(21,some (ar 90 2 2 aH x6)),(23,sc [ms 21 2 2 aH x6,ms 22 1 2 aC x1.parts])] [(0,true),(0,true)] ⟨(x5.2.b,x5.2.p,x6,x1.parts),2,h,((lk hC [.shd 22] [] [] [(22,some (ar 46 1 2 aC x1.parts))] []).trans (lS))⟩
  ·refine rq hC [] [29,30] [(29,vB (decide (x3.1=1)))] [] [] (aS h (fun c2 h=> ?_) (fun c2 h=> ?_))
   ·refine rq hC [oN aH x1.arrays] (fr 31 4) [(34,vB (decide ((0:Int)<(x1.arrays.length:Int))))] [] [] (aS h (fun c3 h=> ?_) (fun c3 h=> ?_))
    ·obtain⟨x7,hx7,x8,hx8,x9,hx9,h⟩:=lC h
     exact dk hC bL [.z (.int 0),oC [0] [] (aZ G hx7),.z (.int 0),oQ (mP aH hx8),oX aH hx8,.z (.rows (List.map aH x9)),oQ (str aH hx9)] (fr 35 8) [] [(0,sR x7.2),(21,some (ar 90 1 2 aH x9))] [(0,true)] ⟨(x7.2.b,x7.2.p,x9,x1.parts),1,h,((lpP hC [.lenc 23 0 (List.map aH x9).length] [] [] [(23,sc [ms 21 1 2 aH x9,ms 22 1 2 aC x1.parts])] [] (a1 (uO aH hx9)) (by kernel_rfl)).trans ((lk hC [.shd 22] [] [] [(22,some (ar 46 1 2 aC x1.parts))] []).trans (lS)))⟩
    ·exact qk ⟨(x3.2.b,x3.2.p,x1.arrays,x1.parts),1,h,((lk hC [.shd 22] [] [] [(22,some (ar 46 1 2 aC x1.parts))] []).trans (lS))⟩
   ·refine rq hC [] [43,44] [(43,vB (decide (x3.1=2)))] [] [] (aS h (fun c4 h=> ?_) (fun c4 h=> ?_))
    ·refine rq hC [] [45,46] [(46,vB (decide ((0:Int)<(x1.parts.length:Int))))] [] [] (aS h (fun c5 h=> ?_) (fun c5 h=> ?_))
     ·refine qw (lk hC [.shd 22] [] [] [(22,some (ar 46 1 2 aC x1.parts))] []) ?_
      obtain⟨x10,hx10,x11,hx11,x12,hx12,h⟩:=lC h
      obtain⟨x13,hx13,x14,hx14,h⟩:=dG h
      exact dk hC bL [oQ (mP aC hx10),oX aC hx10,oC [0] [24] (rG G hx11),.z (.at 5),.z (.fz 24 [57] []),oC [0] [25] (rG G hx12),.z (.at 4),.z (.fz 25 [58] []),oC [0] [26] (rG G hx13),.z (.at 1),.z (.fz 26 [59] []),oQ (mP aC hx10),oX aC hx10,.z (.rows (List.map aC x14)),oQ (str aC hx14)] (fr 47 15) [] [(24,none),(0,sR x13.2),(25,none),(26,none),(22,some (ar 46 1 2 aC x14))] [(0,true),(24,true),(0,true),(25,true),(0,true),(26,true)] ⟨(x13.2.b,x13.2.p,x1.arrays,x14),1,h,((lpP hC [.lenc 23 1 (List.map aC x14).length] [] [] [(23,sc [ms 21 1 2 aH x1.arrays,ms 22 1 2 aC x14])] [] (a1 (uO aC hx14)) (by kernel_rfl)).trans (lS))⟩
     ·exact qk ⟨(x3.2.b,x3.2.p,x1.arrays,x1.parts),1,h,((lk hC [.shd 22] [] [] [(22,some (ar 46 1 2 aC x1.parts))] []).trans (lS))⟩
    ·refine rq hC [] [62,63] [(62,vB (decide (x3.1=3)))] [] [] (aS h (fun c6 h=> ?_) (fun c6 h=> ?_))
     ·refine vj h (fun x_=>aX [(0,V.ref 0 0),(4,V.ref 20 0),(5,V.ref 23 0),(6,vI (x1.parts.length:Int)),(76,vB x_)] [(0,eL x3.2),(20,E.cells [V.t T.nilS,V.t T.nilS]),(21,ar 90 1 2 aH x1.arrays),(22,E.tree mM 2 1 (List.map aC x1.parts) []),(23,E.cells [ms 21 1 2 aH x1.arrays,ms 22 1 2 aC x1.parts])] [0,20,21,22,23]) (fun j15 h=> ?_) (fun x17 h=> ?_)
      ·
       refine aR h (fun c7 h=> ?_) (fun c7 h=> ?_)
       ·exact rk hC (rF 10 c7) (fr 64 13) [(76,vB false)] [] [] (lE h)
       ·obtain⟨x16,hx16,h⟩:=bd h
        exact qw (lpP hC [.foc 22 24 (0+Int.toNat (wr ((x1.parts.length:Int)-1))) 1 (aC x16),.shd 24] [] [] [(22,some (E.tree mM 2 1 (List.map aC x1.parts) [((0+Int.toNat (wr ((x1.parts.length:Int)-1))),1,ms 24 1 9 aI x16.body)])),(24,some (ar 84 1 9 aI x16.body))] [(24,true)] (a1 (ixr aC hx16)) (by kernel_rfl)) (rk hC (rT 5 c7++[oQ (mP aC hx16),oT c7,oT c7,oX aC hx16,oT c7,oN aI x16.body,oT c7,oT c7]) (fr 64 13) [(76,vB (decide ((0:Int)<(x16.body.length:Int))))] [] [] ⟨decide ((0:Int)<(x16.body.length:Int)),h,((lpP hC [.tre 24 mM 3,.unf 22 24 (aC x16) (List.map aC x1.parts)] [] [] [(24,none),(22,some (E.tree mM 2 1 (List.map aC x1.parts) []))] [] (a4 (Eq.refl (List.map aI x16.body).length) (Eq.refl mM) (ixr aC hx16) (aFW aC hx16 rfl)) (by kernel_rfl)).trans (lS))⟩)
      ·refine aS h (fun c8 h=> ?_) (fun c8 h=> ?_)
       ·obtain⟨x18,hx18,h⟩:=bd h
        refine qw (lpP hC [.foc 22 24 (0+Int.toNat (wr ((x1.parts.length:Int)-1))) 1 (aC x18),.shd 24] [] [] [(22,some (E.tree mM 2 1 (List.map aC x1.parts) [((0+Int.toNat (wr ((x1.parts.length:Int)-1))),1,ms 24 1 9 aI x18.body)])),(24,some (ar 84 1 9 aI x18.body))] [(24,true)] (a1 (ixr aC hx18)) (by kernel_rfl)) ?_
        obtain⟨x19,hx19,x20,hx20,x21,hx21,h⟩:=lC h
        obtain⟨x22,hx22,x23,hx23,h⟩:=dG h
        refine dk hC bL [oQ (mP aC hx18),oX aC hx18,oQ (mP aC hx18),oX aC hx18,oQ (mP aI hx19),oX aI hx19,oC [0] [] (rD G hx20),oC [0] [] (rD G hx21),oC [0] [] (rD G hx22),oQ (mP aI hx19),oX aI hx19,.z (.rows (List.map aI x23)),oQ (str aI hx23)] (fr 77 23) [] [(0,sR x22.2),(24,some (ar 84 1 9 aI x23))] [(0,true),(0,true),(0,true)] ?_
        obtain⟨x24,hx24,h⟩:=bd h
        exact⟨(x22.2.b,x22.2.p,x1.arrays,x24),1,h,((lpP hC [.tre 24 mM 3,.unf 22 24 (aC x18) (List.map aC x24),.lenc 23 1 (List.map aC x24).length] [] [] [(24,none),(22,some (E.tree mM 2 1 (List.map aC x24) [])),(23,sc [ms 21 1 2 aH x1.arrays,ms 22 1 2 aC x24])] [] (a5 (uO aI hx23) (Eq.refl mM) (ixr aC hx18) (aFV aC hx24 rfl) (uO aC hx24)) (by kernel_rfl)).trans ((lk hC [.shd 22] [] [] [(22,some (ar 46 1 2 aC x24))] []).trans (lS)))⟩
       ·exact qk ⟨(x3.2.b,x3.2.p,x1.arrays,x1.parts),1,h,((lk hC [.shd 22] [] [] [(22,some (ar 46 1 2 aC x1.parts))] []).trans (lS))⟩
     ·refine rq hC [] [100,101] [(100,vB (decide (x3.1=4)))] [] [] (aS h (fun c9 h=> ?_) (fun c9 h=> ?_))
      ·refine rq hC [] [102,103] [(103,vB (decide ((0:Int)<(x1.parts.length:Int))))] [] [] (aS h (fun c10 h=> ?_) (fun c10 h=> ?_))
       ·refine qw (lk hC [.shd 22] [] [] [(22,some (ar 46 1 2 aC x1.parts))] []) ?_
        obtain⟨x25,hx25,x26,hx26,h⟩:=dG h
        exact rk hC [oQ (mP aC hx25),oX aC hx25,.z (.rows (List.map aC x26)),.z (.lenc 23 1 (List.map aC x26).length),oQ (str aC hx26),oQ (uO aC hx26)] (fr 104 6) [] [(22,some (ar 46 1 2 aC x26)),(23,sc [ms 21 1 2 aH x1.arrays,ms 22 1 2 aC x26])] [] ⟨(x3.2.b,x3.2.p,x1.arrays,x26),1,h,lS⟩
       ·exact qk ⟨(x3.2.b,x3.2.p,x1.arrays,x1.parts),1,h,((lk hC [.shd 22] [] [] [(22,some (ar 46 1 2 aC x1.parts))] []).trans (lS))⟩
      ·exact qk ⟨(x3.2.b,x3.2.p,x1.arrays,x1.parts),1,h,((lk hC [.shd 22] [] [] [(22,some (ar 46 1 2 aC x1.parts))] []).trans (lS))⟩
 ·rintro⟨x27,x28,x29,x30⟩ g31 h
  subst hj2
  obtain rfl:=so h
  exact rq hC [.z (.at 2),.z (.fz 21 [] [23]),.z (.at 2),.z (.fz 22 [] [23])] [110] [] [(23,sc [vM aH x29,vM aC x30]),(21,none),(22,none),(20,sc [vM aH x29,vM aC x30])] [] (qr eW)
theorem u5(G:GS)(n:Nat)(a:Affine){r:Affine}(h:fB n a=some r):PQ G 113 [V.agg (aT a)] (V.agg (aT r)):=by
 unfold fB at h
 refine pq aN Tryz.func113 rfl fun w X hC=> ?_
 refine rq hC [.z (.b (true)),.z (.nat 20)] [1,2] [(1,V.tp (bQ a)),(2,V.ref 20 0)] [(20,sc [V.t T.nilS,vI 0])] [(20,true)] (qs ?_)
 obtain⟨x1,hx1,h⟩:=bd h
 obtain rfl:=so h
 exact dk hC bL [oC [] [21] (G.clone a.coefs hx1)] (fr 3 6) [] [(21,some (ar 3 1 1 rI x1)),(20,sc [ms 21 1 1 rI x1,vI a.const])] [(21,true)] (qw (lk hC [.fz 21 [] [20]] [] [] [(20,sc [vM rI x1,vI a.const]),(21,none)] []) (qr eR))
theorem kV{list}{r}(h:fA n list=some r):VQ G 202 [] [vM aB list] (ms 0 1 2 aB r) [ar 79 1 2 aB r]:=by
 unfold fA at h
 refine vq aN Tryz.func202 rfl fun w X β0 hC hg=> ?_
 refine rq hC [] [2] [] [] [] (rq hC [] [3] [(3,V.t T.nilS)] [] [] (qs (rq hC [oN aB list] [6,7,8] [(6,vM aB list),(7,vI (list.length:Int)),(8,vI 0)] [] [] (qb (qw (lk hC [.grow 3 20 79] [3] [(3,ms 20 1 2 aB [])] [(20,some (ar 79 1 2 aB []))] [(20,true)]) ?_)))))
 refine bA (γ:=Nat) h (fun x_ g_=>aX [(3,ms 20 g_ 2 aB x_.1),(6,vM aB list),(7,vI (list.length:Int)),(8,vI x_.2)] [(20,ar 79 g_ 2 aB x_.1)] [20]) 1 (lS) ?_
 rintro again4 ⟨x1,x2⟩ g3 h
 refine rq hC [] [9] [(9,vB (decide (x2<(list.length:Int))))] [] [] (qs (aS h (fun c1 h=> ?_) (fun c1 h=> ?_)))
 ·refine qk (qs (qb ?_))
  obtain⟨x5,hx5,h⟩:=bd h
  refine rq hC [oR aB hx5,.z (.nat 21)] [5,10,11] [(5,V.ref 21 0)] [(21,some (E.cells (aT x5)))] [(21,true)] ?_
  obtain⟨x6,hx6,x7,hx7,h⟩:=dG h
  exact rk hC [oV (u5 G n x5 hx6),.z (.int 0),oA (aO aB hx7),oQ (bW (r:=aB) 2 bC x1),oQ (bW (r:=aB) 2 bC [x6])] [3,12,13,14,15,16] [(3,ms 20 (g3+1) 2 aB x7)] [(20,some (ar 79 (g3+1) 2 aB x7))] [] (rk hC [] [8,17] [(8,vI (wr (x2+1)))] [] [] ⟨(x7,wr (x2+1)),(g3+1),h,lS⟩)
 ·obtain rfl:=so h
  exact cU (rq hC [] [2,18] [(2,ms 20 g3 2 aB x1)] [] [] (qw (lk hC [.ren 2 20 0] [2] [(2,ms 0 1 2 aB x1)] [(0,some (ar 79 1 2 aB x1)),(20,none)] [(0,true)]) (qr eW)))
theorem B1{nest}{r}(h:jU n nest=some r):VQ G 109 [] [vM aD nest] (ms 0 1 2 aD r) [ar 123 1 2 aD r]:=by
 unfold jU at h
 refine vq aN Tryz.func109 rfl fun w X β0 hC hg=> ?_
 refine rq hC [] [2] [] [] [] (rq hC [] [3] [(3,V.t T.nilS)] [] [] (qs (rq hC [oN aD nest] [6,7,8] [(6,vM aD nest),(7,vI (nest.length:Int)),(8,vI 0)] [] [] (qb (qw (lk hC [.grow 3 20 123] [3] [(3,ms 20 1 2 aD [])] [(20,some (ar 123 1 2 aD []))] [(20,true)]) ?_)))))
 refine bA (γ:=Nat) h (fun x_ g_=>aX [(3,ms 20 g_ 2 aD x_.1),(6,vM aD nest),(7,vI (nest.length:Int)),(8,vI x_.2)] [(20,ar 123 g_ 2 aD x_.1)] [20]) 1 (lS) ?_
 rintro again4 ⟨x1,x2⟩ g3 h
 refine rq hC [] [9] [(9,vB (decide (x2<(nest.length:Int))))] [] [] (qs (aS h (fun c1 h=> ?_) (fun c1 h=> ?_)))
 ·refine qk (qs (qb ?_))
  obtain⟨x5,hx5,h⟩:=bd h
  refine rq hC [oR aD hx5,.z (.nat 21)] [5,10,11] [(5,V.ref 21 0)] [(21,some (E.cells (lB x5)))] [(21,true)] ?_
  obtain⟨x6,hx6,x7,hx7,x8,hx8,h⟩:=lC h
  exact dk hC bL [oC [] [22] (kV G hx6),oC [] [23] (kV G hx7),.z (.at 4),.z (.fz 22 [15] []),.z (.at 4),.z (.fz 23 [18] []),.z (.int 0),oA (aO aD hx8),oQ (bW (r:=aD) 2 dA x1),oQ (bW (r:=aD) 2 dA [(⟨x6,x7⟩:Loop)])] [3,12,13,14,15,16,17,18,19,20,21] [(3,ms 20 (g3+1) 2 aD x8)] [(22,none),(23,none),(20,some (ar 123 (g3+1) 2 aD x8))] [(22,true),(23,true)] (rk hC [] [8,22] [(8,vI (wr (x2+1)))] [] [] ⟨(x8,wr (x2+1)),(g3+1),h,lS⟩)
 ·obtain rfl:=so h
  exact cU (rq hC [] [2,23] [(2,ms 20 g3 2 aD x1)] [] [] (qw (lk hC [.ren 2 20 0] [2] [(2,ms 0 1 2 aD x1)] [(0,some (ar 123 1 2 aD x1)),(20,none)] [(0,true)]) (qr eW)))
theorem u6(G:GS)(n:Nat)(a:Access)(changeF:FuncId)(change:Affine→Option Affine)(hchange: ∀(q0:Affine) r,change q0=some r→PQ G changeF [V.agg (aT q0)] (V.agg (aT r))){r:Access}(h:jW n a change=some r):PQ G 271 [V.agg (cT a),V.fn changeF []] (V.agg (cT r)):=by
 unfold jW at h
 refine pq aN Tryz.func271 rfl fun w X hC=> ?_
 refine rq hC [.z (.b (true)),.z (.nat 20)] [2,4] [(2,V.tp (d6 a)),(4,V.ref 20 0)] [(20,sc [vS [],V.t T.nilS])] [(20,true)] (rq hC [.z (.nat 21)] [5,8,9,10] [(5,V.ref 21 0)] [(21,sc [vS a.array,V.t T.nilS])] [(21,true)] (qs (rq hC [oN aB a.subs] (fr 11 4) [(12,vM aB a.subs),(13,vI (a.subs.length:Int)),(14,vI 0)] [] [] (qb (qw (lk hC [.growc 21 1 22 79] [] [] [(22,some (ar 79 1 2 aB [])),(21,sc [vS a.array,ms 22 1 2 aB []])] [(22,true)]) ?_)))))
 refine bA (γ:=Nat) h (fun x_ g_=>aX [(1,V.fn changeF []),(4,V.ref 20 0),(5,V.ref 21 0),(12,vM aB a.subs),(13,vI (a.subs.length:Int)),(14,vI x_.2)] [(20,E.cells [vS [],V.t T.nilS]),(21,E.cells [vS a.array,ms 22 g_ 2 aB x_.1]),(22,ar 79 g_ 2 aB x_.1)] [20,21,22]) 1 (lS) ?_
 rintro again4 ⟨x1,x2⟩ g3 h
 refine rq hC [] [15] [(15,vB (decide (x2<(a.subs.length:Int))))] [] [] (qs (aS h (fun c1 h=> ?_) (fun c1 h=> ?_)))
 ·refine qk (qs (qb ?_))
  obtain⟨x5,hx5,h⟩:=bd h
  refine rq hC [oR aB hx5,.z (.nat 23)] [7,16,17] [(7,V.ref 23 0)] [(23,some (E.cells (aT x5)))] [(23,true)] ?_
  obtain⟨x6,hx6,x7,hx7,h⟩:=dG h
  exact dk hC bL [oV (hchange x5 _ hx6),.z (.int 0),oA (aO aB hx7),oQ (bW (r:=aB) 2 bC x1),oQ (bW (r:=aB) 2 bC [x6])] (fr 18 8) [] [(22,some (ar 79 (g3+1) 2 aB x7)),(21,sc [vS a.array,ms 22 (g3+1) 2 aB x7])] [] (rk hC [] [14,26] [(14,vI (wr (x2+1)))] [] [] ⟨(x7,wr (x2+1)),(g3+1),h,lS⟩)
 ·obtain rfl:=so h
  exact cU (rq hC [.z (.at 2),.z (.fz 22 [] [21])] [27] [] [(21,sc [vS a.array,vM aB x1]),(22,none),(20,sc [vS a.array,vM aB x1])] [] (qr eR))
theorem aB5(G:GS): ∀(n:Nat) (e:Expr) (changeF:FuncId) (change:Affine→Option Affine) (hchange: ∀(q0:Affine) r,change q0=some r→PQ G changeF [V.agg (aT q0)] (V.agg (aT r))) {r:Expr} (h:i_exprMap n e change=some r),PQ G 272 [V.agg (dJ e),V.fn changeF []] (V.agg (dJ r)):=by
 intro n
 induction n with
 |zero=>intro e changeF change hchange r h;rw [i_exprMap.eq_def] at h;cases h
 |succ n ih=>
  intro e changeF change hchange r h
  rw [i_exprMap.eq_def] at h;dsimp only at h
  refine pq aN Tryz.func272 rfl fun w X hC=> ?_
  refine rq hC [.z (.b (true)),.z (.nat 20)] [2,4] [(2,V.tp (gW e)),(4,V.ref 20 0)] [(20,sc [vI 0,vI 0,V.t T.nilS,vI 0,vS [],V.t T.nilS,V.t T.nilS])] [(20,true)] (rq hC [.z (.nat 21)] [5,8,9,10,11,12] [(5,V.ref 21 0)] [(21,sc [vI e.kind,vI e.num,V.t T.nilS,vI 0,vS [],V.t T.nilS,V.t T.nilS])] [(21,true)] (vj h (fun x_=>aX [(1,V.fn changeF []),(2,V.tp (gW e)),(4,V.ref 20 0),(5,V.ref 21 0)] [(20,E.cells [vI 0,vI 0,V.t T.nilS,vI 0,vS [],V.t T.nilS,V.t T.nilS]),(21,E.cells [vI e.kind,vI e.num,vM rI x_.1,vI x_.2.1,vS x_.2.2.1,vM aB x_.2.2.2,V.t T.nilS])] [20,21]) (fun j1 h=> ?_) ?_))
  ·
   refine rq hC [] [13,14] [(14,vI e.kind)] [] [] (qb (rq hC [] [15,16] [(15,vB (decide (e.kind=2)))] [] [] (aS h (fun c1 h=> ?_) (fun c1 h=> ?_))))
   ·obtain⟨x2,hx2,h⟩:=bd h
    exact rk hC [oV (hchange e.index _ hx2)] (fr 17 5) [] [(21,sc [vI e.kind,vI e.num,vM rI x2.coefs,vI x2.const,vS [],V.t T.nilS,V.t T.nilS])] [] (lE h)
   ·refine rq hC [] [22,23] [(22,vB (decide (e.kind=3)))] [] [] (aS h (fun c2 h=> ?_) (fun c2 h=> ?_))
    ·obtain⟨x3,hx3,h⟩:=bd h
     exact rk hC [oV (u6 G n e.read changeF change hchange hx3)] (fr 24 5) [] [(21,sc [vI e.kind,vI e.num,V.t T.nilS,vI 0,vS x3.array,vM aB x3.subs,V.t T.nilS])] [] (lE h)
    ·exact qk (lE h)
  ·rintro⟨x4,x5,x6,x7⟩ h
   refine qs (rq hC [oN aK e.kids] (fr 29 4) [(30,vM aK e.kids),(31,vI (e.kids.length:Int)),(32,vI 0)] [] [] (qb (qw (lk hC [.growc 21 6 22 82] [] [] [(22,some (ar 82 1 7 aK [])),(21,sc [vI e.kind,vI e.num,vM rI x4,vI x5,vS x6,vM aB x7,ms 22 1 7 aK []])] [(22,true)]) (bA (γ:=Nat) h (fun x_ g_=>aX [(1,V.fn changeF []),(4,V.ref 20 0),(5,V.ref 21 0),(30,vM aK e.kids),(31,vI (e.kids.length:Int)),(32,vI x_.2)] [(20,E.cells [vI 0,vI 0,V.t T.nilS,vI 0,vS [],V.t T.nilS,V.t T.nilS]),(21,E.cells [vI e.kind,vI e.num,vM rI x4,vI x5,vS x6,vM aB x7,ms 22 g_ 7 aK x_.1]),(22,ar 82 g_ 7 aK x_.1)] [20,21,22]) 1 (lS) ?_))))
   rintro again11 ⟨x8,x9⟩ g10 h
   refine rq hC [] [33] [(33,vB (decide (x9<(e.kids.length:Int))))] [] [] (qs (aS h (fun c3 h=> ?_) (fun c3 h=> ?_)))
   ·refine qk (qs (qb ?_))
    obtain⟨x12,hx12,h⟩:=bd h
    refine rq hC [.z (.row (eJ x12)),.z (.nat 23),oQ (fL aK hx12 (cY x12))] [7,34,35] [(7,V.ref 23 0)] [(23,some (E.cells (dJ x12)))] [(23,true)] ?_
    obtain⟨x13,hx13,x14,hx14,h⟩:=dG h
    exact dk hC bL [oV (ih x12 changeF change hchange hx13),.z (.int 2),.z (.rows (List.map aK [x13])),oQ (xV x13),oA (aO aK hx14),oQ (bW (r:=aK) 7 gM x8),oQ (bW (r:=aK) 7 gM [x13])] (fr 36 8) [] [(22,some (ar 82 (g10+1) 7 aK x14)),(21,sc [vI e.kind,vI e.num,vM rI x4,vI x5,vS x6,vM aB x7,ms 22 (g10+1) 7 aK x14])] [] (rk hC [] [32,44] [(32,vI (wr (x9+1)))] [] [] ⟨(x14,wr (x9+1)),(g10+1),h,lS⟩)
   ·obtain rfl:=so h
    exact cU (rq hC [.z (.at 2),.z (.fz 22 [] [21])] [45] [] [(21,sc [vI e.kind,vI e.num,vM rI x4,vI x5,vS x6,vM aB x7,vM aK x8]),(22,none),(20,sc [vI e.kind,vI e.num,vM rI x4,vI x5,vS x6,vM aB x7,vM aK x8])] [] (qr eR))
theorem aB1(G:GS)(n:Nat)(s:Stmt)(changeF:FuncId)(change:Affine→Option Affine)(hchange: ∀(q0:Affine) r,change q0=some r→PQ G changeF [V.agg (aT q0)] (V.agg (aT r))){r:Stmt}(h:pY n s change=some r):PQ G 203 [V.agg (cV s),V.fn changeF []] (V.agg (cV r)):=by
 unfold pY at h
 refine pq aN Tryz.func203 rfl fun w X hC=> ?_
 refine rq hC [.z (.b (true)),.z (.nat 20)] [2,4] [(2,V.tp (oP s)),(4,V.ref 20 0)] [(20,sc [vS [],V.t T.nilS,vI 0,vI 0,V.t T.nilS,vI 0,vS [],V.t T.nilS,V.t T.nilS])] [(20,true)] (qs ?_)
 obtain⟨x1,hx1,x2,hx2,h⟩:=dG h
 obtain rfl:=so h
 exact dk hC bL [oV (u6 G n s.write changeF change hchange hx1),oV (aB5 G n s.value changeF change hchange hx2)] (fr 5 9) [] [(20,sc [vS x1.array,vM aB x1.subs,vI x2.kind,vI x2.num,vM rI x2.index.coefs,vI x2.index.const,vS x2.read.array,vM aB x2.read.subs,vM aK x2.kids])] [] (qr eR)
theorem B0{s}{r}(h:pZ n s=some r):PQ G 157 [V.agg (cV s)] (V.agg (cV r)):=by
 unfold pZ at h
 refine pq aN Tryz.func157 rfl fun w X hC=> ?_
 refine rq hC [.z (.b (true)),.z (.nat 20)] [1,2] [(1,V.tp (oP s)),(2,V.ref 20 0)] [(20,sc [vS [],V.t T.nilS,vI 0,vI 0,V.t T.nilS,vI 0,vS [],V.t T.nilS,V.t T.nilS])] [(20,true)] ?_
 obtain⟨x1,hx1,h⟩:=bd h
 obtain rfl:=so h
 exact rq hC [oV (aB1 G n s 113 (fun q0=>fB n q0) (fun q0 r h=>u5 G n q0 h) hx1)] [3,4] [] [(20,some (E.cells (cV x1)))] [] (qr eR)
theorem aB2{p}{r}(h:jT n p=some r):VQ G 95 [] [V.agg (mL p)] (V.agg [ms 0 1 2 aD r.nest,ms 1 1 9 aI r.body]) [ar 123 1 2 aD r.nest,ar 84 1 9 aI r.body]:=by
 unfold jT at h
 refine vq aN Tryz.func95 rfl fun w X β0 hC hg=> ?_
 refine rq hC [.z (.b (true)),.z (.nat 20)] [1,2] [(1,V.tp (nN p)),(2,V.ref 20 0)] [(20,sc [V.t T.nilS,V.t T.nilS])] [(20,true)] ?_
 obtain⟨x1,hx1,h⟩:=bd h
 refine rq hC [oC [] [21] (B1 G hx1),.z (.nat 22)] [3,6,7,8,9] [(3,V.ref 22 0)] [(21,some (ar 123 1 2 aD x1)),(22,sc [ms 21 1 2 aD x1,V.t T.nilS])] [(21,true),(22,true)] (qs (rq hC [oN aI p.body] (fr 10 4) [(11,vM aI p.body),(12,vI (p.body.length:Int)),(13,vI 0)] [] [] (qb (qw (lk hC [.growc 22 1 23 84] [] [] [(23,some (ar 84 1 9 aI [])),(22,sc [ms 21 1 2 aD x1,ms 23 1 9 aI []])] [(23,true)]) (bA (γ:=Nat) h (fun x_ g_=>aX [(2,V.ref 20 0),(3,V.ref 22 0),(11,vM aI p.body),(12,vI (p.body.length:Int)),(13,vI x_.2)] [(20,E.cells [V.t T.nilS,V.t T.nilS]),(21,ar 123 1 2 aD x1),(22,E.cells [ms 21 1 2 aD x1,ms 23 g_ 9 aI x_.1]),(23,ar 84 g_ 9 aI x_.1)] [20,21,22,23]) 1 (lS) ?_)))))
 rintro again5 ⟨x2,x3⟩ g4 h
 refine rq hC [] [14] [(14,vB (decide (x3<(p.body.length:Int))))] [] [] (qs (aS h (fun c1 h=> ?_) (fun c1 h=> ?_)))
 ·refine qk (qs (qb ?_))
  obtain⟨x6,hx6,h⟩:=bd h
  refine rq hC [oR aI hx6,.z (.nat 24)] [5,15,16] [(5,V.ref 24 0)] [(24,some (E.cells (cV x6)))] [(24,true)] ?_
  obtain⟨x7,hx7,x8,hx8,h⟩:=dG h
  exact dk hC bL [oV (B0 G hx7),.z (.int 0),oA (aO aI hx8),oQ (bW (r:=aI) 9 cJ x2),oQ (bW (r:=aI) 9 cJ [x7])] (fr 17 7) [] [(23,some (ar 84 (g4+1) 9 aI x8)),(22,sc [ms 21 1 2 aD x1,ms 23 (g4+1) 9 aI x8])] [] (rk hC [] [13,24] [(13,vI (wr (x3+1)))] [] [] ⟨(x8,wr (x3+1)),(g4+1),h,lS⟩)
 ·obtain rfl:=so h
  exact cU (rq hC [] [25] [] [(20,sc [ms 21 1 2 aD x1,ms 23 g4 9 aI x2])] [] (qw (lk hC [.rn 21 0 [] [20,22]] [] [] [(20,sc [ms 0 1 2 aD x1,ms 23 g4 9 aI x2]),(22,sc [ms 0 1 2 aD x1,ms 23 g4 9 aI x2]),(21,none),(0,some (ar 123 1 2 aD x1))] [(0,true)]) (qw (lk hC [.rn 23 1 [] [20,22]] [] [] [(20,sc [ms 0 1 2 aD x1,ms 1 1 9 aI x2]),(22,sc [ms 0 1 2 aD x1,ms 1 1 9 aI x2]),(23,none),(1,some (ar 84 1 9 aI x2))] [(1,true)]) (qr eW))))
theorem C6{p}{r}(h:d9 n p=some r):VQ G 65 [] [V.agg (bD p)] (V.agg [ms 0 1 2 aH r.arrays,ms 1 1 2 aC r.parts]) [ar 90 1 2 aH r.arrays,ar 46 1 2 aC r.parts]:=by
 unfold d9 at h
 refine vq aN Tryz.func65 rfl fun w X β0 hC hg=> ?_
 refine rq hC [.z (.b (true)),.z (.nat 20)] [1,2] [(1,V.tp (bM p)),(2,V.ref 20 0)] [(20,sc [V.t T.nilS,V.t T.nilS])] [(20,true)] (rq hC [.z (.nat 21)] [3] [(3,V.ref 21 0)] [(21,sc [V.t T.nilS,V.t T.nilS])] [(21,true)] (qs (rq hC [oN aH p.arrays] (fr 8 4) [(9,vM aH p.arrays),(10,vI (p.arrays.length:Int)),(11,vI 0)] [] [] (qb (qw (lk hC [.growc 21 0 22 90] [] [] [(22,some (ar 90 1 2 aH [])),(21,sc [ms 22 1 2 aH [],V.t T.nilS])] [(22,true)]) ?_)))))
 refine bA (γ:=Nat) h (fun x_ g_=>aX [(1,V.tp (bM p)),(2,V.ref 20 0),(3,V.ref 21 0),(9,vM aH p.arrays),(10,vI (p.arrays.length:Int)),(11,vI x_.2)] [(20,E.cells [V.t T.nilS,V.t T.nilS]),(21,E.cells [ms 22 g_ 2 aH x_.1,V.t T.nilS]),(22,ar 90 g_ 2 aH x_.1)] [20,21,22]) 1 (lS) ?_
 rintro again4 ⟨x1,x2⟩ g3 h
 refine rq hC [] [12] [(12,vB (decide (x2<(p.arrays.length:Int))))] [] [] (qs (aS h (fun c1 h=> ?_) (fun c1 h=> ?_)))
 ·refine qk (qs (qb ?_))
  obtain⟨x5,hx5,h⟩:=bd h
  refine rq hC [oR aH hx5,.z (.nat 23)] [5,13,14] [(5,V.ref 23 0)] [(23,sc [vS x5.name,vM rI x5.dims])] [(23,true)] ?_
  obtain⟨x6,hx6,x7,hx7,h⟩:=dG h
  exact dk hC bL [oC [] [24] (G.clone x5.dims hx6),.z (.at 5),.z (.fz 24 [21] []),.z (.int 0),oA (aO aH hx7),oQ (bW (r:=aH) 2 gH x1),oQ (bW (r:=aH) 2 gH [(⟨x5.name,x6⟩:Arr)])] (fr 15 11) [] [(24,none),(22,some (ar 90 (g3+1) 2 aH x7)),(21,sc [ms 22 (g3+1) 2 aH x7,V.t T.nilS])] [(24,true)] (rk hC [] [11,26] [(11,vI (wr (x2+1)))] [] [] ⟨(x7,wr (x2+1)),(g3+1),h,lS⟩)
 ·refine cU (qs (rq hC [oN aC p.parts] (fr 27 4) [(28,vM aC p.parts),(29,vI (p.parts.length:Int)),(30,vI 0)] [] [] (qb (qw (lk hC [.growc 21 1 23 46] [] [] [(23,some (ar 46 1 2 aC [])),(21,sc [ms 22 g3 2 aH x1,ms 23 1 2 aC []])] [(23,true)]) (bA (γ:=Nat) h (fun x_ g_=>aX [(2,V.ref 20 0),(3,V.ref 21 0),(28,vM aC p.parts),(29,vI (p.parts.length:Int)),(30,vI x_.2)] [(20,E.cells [V.t T.nilS,V.t T.nilS]),(21,E.cells [ms 22 g3 2 aH x1,ms 23 g_ 2 aC x_.1]),(22,ar 90 g3 2 aH x1),(23,ar 46 g_ 2 aC x_.1)] [20,21,22,23]) 1 (lS) ?_)))))
  rintro again11 ⟨x8,x9⟩ g10 h
  refine rq hC [] [31] [(31,vB (decide (x9<(p.parts.length:Int))))] [] [] (qs (aS h (fun c2 h=> ?_) (fun c2 h=> ?_)))
  ·refine qk (qs (qb ?_))
   obtain⟨x12,hx12,h⟩:=bd h
   refine rq hC [oR aC hx12,.z (.nat 24)] [7,32,33] [(7,V.ref 24 0)] [(24,some (E.cells (mL x12)))] [(24,true)] ?_
   obtain⟨x13,hx13,x14,hx14,h⟩:=dG h
   exact dk hC bL [oC [] [25,26] (aB2 G hx13),.z (.at 4),.z (.fz 25 [37] []),.z (.at 4),.z (.fz 26 [37] []),.z (.int 0),oA (aO aC hx14),oQ (bW (r:=aC) 2 b6 x8),oQ (bW (r:=aC) 2 b6 [x13])] (fr 34 7) [] [(25,none),(26,none),(23,some (ar 46 (g10+1) 2 aC x14)),(21,sc [ms 22 g3 2 aH x1,ms 23 (g10+1) 2 aC x14])] [(25,true),(26,true)] (rk hC [] [30,41] [(30,vI (wr (x9+1)))] [] [] ⟨(x14,wr (x9+1)),(g10+1),h,lS⟩)
  ·obtain rfl:=so h
   exact cU (rq hC [] [42] [] [(20,sc [ms 22 g3 2 aH x1,ms 23 g10 2 aC x8])] [] (qw (lk hC [.rn 22 0 [] [20,21]] [] [] [(20,sc [ms 0 1 2 aH x1,ms 23 g10 2 aC x8]),(21,sc [ms 0 1 2 aH x1,ms 23 g10 2 aC x8]),(22,none),(0,some (ar 90 1 2 aH x1))] [(0,true)]) (qw (lk hC [.rn 23 1 [] [20,21]] [] [] [(20,sc [ms 0 1 2 aH x1,ms 1 1 2 aC x8]),(21,sc [ms 0 1 2 aH x1,ms 1 1 2 aC x8]),(23,none),(1,some (ar 46 1 2 aC x8))] [(1,true)]) (qr eW))))
def sG:List Nd:=[⟨46,2,[(0,1),(1,2)]⟩,⟨123,2,[(0,3),(1,3)]⟩,⟨84,9,[]⟩,⟨79,2,[]⟩,⟨75,1,[(0,3)]⟩]
theorem S1{nest}{r}(h:jU n nest=some r):VQ G 109 [] [vM aD nest] (ms 0 1 2 aD r) [E.tree sG 1 1 (List.map aD r) []]:=by
 unfold jU at h
 refine vq aN Tryz.func109 rfl fun w X β0 hC hg=> ?_
 refine rq hC [] [2] [] [] [] (rq hC [] [3] [(3,V.t T.nilS)] [] [] (qs (rq hC [oN aD nest] [6,7,8] [(6,vM aD nest),(7,vI (nest.length:Int)),(8,vI 0)] [] [] (qb (qw (lk hC [.grow 3 20 123,.tre 20 sG 1] [3] [(3,ms 20 1 2 aD [])] [(20,some (E.tree sG 1 1 (List.map aD []) []))] [(20,true)]) ?_)))))
 refine bA (γ:=Nat) h (fun x_ g_=>aX [(3,ms 20 g_ 2 aD x_.1),(6,vM aD nest),(7,vI (nest.length:Int)),(8,vI x_.2)] [(20,E.tree sG 1 g_ (List.map aD x_.1) [])] [20]) 1 (lS) ?_
 rintro again4 ⟨x1,x2⟩ g3 h
 refine rq hC [] [9] [(9,vB (decide (x2<(nest.length:Int))))] [] [] (qs (aS h (fun c1 h=> ?_) (fun c1 h=> ?_)))
 ·refine qk (qs (qb ?_))
  obtain⟨x5,hx5,h⟩:=bd h
  refine rq hC [oR aD hx5,.z (.nat 21)] [5,10,11] [(5,V.ref 21 0)] [(21,some (E.cells (lB x5)))] [(21,true)] ?_
  obtain⟨x6,hx6,x7,hx7,x8,hx8,h⟩:=lC h
  exact dk hC bL [oC [] [22] (kV G hx6),oC [] [23] (kV G hx7),.z (.lt 24 sG 1),.z (.rows (List.map aD (x1++[(⟨[],[]⟩:Loop)]))),oQ (Eq.refl (ndOf sG 1)),oQ (aHh aD (⟨[],[]⟩:Loop) hx8),oQ (bW (r:=aD) 2 dA x1),oQ (bW (r:=aD) 2 dA [(⟨[],[]⟩:Loop)])] [3,12,13,14,15,16,17,18,19,20,21] [(3,ms 20 (g3+1) 2 aD (x1++[(⟨[],[]⟩:Loop)]))] [(22,some (ar 79 1 2 aB x6)),(23,some (ar 79 1 2 aB x7)),(24,some (E.tree sG 1 1 (List.map aD [(⟨[],[]⟩:Loop)]) [(0,0,ms 22 1 2 aB x6),(0,1,ms 23 1 2 aB x7)])),(20,some (E.tree sG 1 (g3+1) (List.map aD (x1++[(⟨[],[]⟩:Loop)])) (n9 (List.map aD x1).length [(0,0,ms 22 1 2 aB x6),(0,1,ms 23 1 2 aB x7)])))] [(22,true),(23,true),(24,true)] (qw (lpP hC [.tre 22 sG 3,.unf 20 22 (aD (⟨[],[]⟩:Loop)) (List.map aD (x1++[(⟨x6,[]⟩:Loop)])),.tre 23 sG 3,.unf 20 23 (aD (⟨x6,[]⟩:Loop)) (List.map aD x8),.len 3 (List.map aD x8).length] [3] [(3,ms 20 (g3+1) 2 aD x8)] [(22,none),(23,none),(20,some (E.tree sG 1 (g3+1) (List.map aD x8) []))] [] (a9 (Eq.refl (List.map aB x6).length) (Eq.refl sG) (Z1 aD x1 (⟨[],[]⟩:Loop)) (aFU aD x1 (ph:=(⟨[],[]⟩:Loop)) (y:=(⟨x6,[]⟩:Loop)) rfl) (Eq.refl (List.map aB x7).length) (Eq.refl sG) (Z1 aD x1 (⟨x6,[]⟩:Loop)) (aBb aD (ph:=(⟨x6,[]⟩:Loop)) hx8 rfl) (aGh aD (⟨[],[]⟩:Loop) hx8)) (by kernel_rfl)) (rk hC [] [8,22] [(8,vI (wr (x2+1)))] [] [] ⟨(x8,wr (x2+1)),(g3+1),h,lS⟩))
 ·obtain rfl:=so h
  exact cU (rq hC [] [2,23] [(2,ms 20 g3 2 aD x1)] [] [] (qw (lk hC [.rn 20 0 [2,3] []] [2,3] [(2,ms 0 1 2 aD x1),(3,ms 0 1 2 aD x1)] [(20,none),(0,some (E.tree sG 1 1 (List.map aD x1) []))] [(0,true)]) (qr eW)))
theorem R9{p}{r}(h:jT n p=some r):VQ G 95 [] [V.agg (mL p)] (V.agg [ms 0 1 2 aD r.nest,ms 1 1 9 aI r.body]) [E.tree sG 1 1 (List.map aD r.nest) [],ar 84 1 9 aI r.body]:=by
 unfold jT at h
 refine vq aN Tryz.func95 rfl fun w X β0 hC hg=> ?_
 refine rq hC [.z (.b (true)),.z (.nat 20)] [1,2] [(1,V.tp (nN p)),(2,V.ref 20 0)] [(20,sc [V.t T.nilS,V.t T.nilS])] [(20,true)] ?_
 obtain⟨x1,hx1,h⟩:=bd h
 refine rq hC [oC [] [21] (S1 G hx1),.z (.nat 22)] [3,6,7,8,9] [(3,V.ref 22 0)] [(21,some (E.tree sG 1 1 (List.map aD x1) [])),(22,sc [ms 21 1 2 aD x1,V.t T.nilS])] [(21,true),(22,true)] (qs (rq hC [oN aI p.body] (fr 10 4) [(11,vM aI p.body),(12,vI (p.body.length:Int)),(13,vI 0)] [] [] (qb (qw (lk hC [.growc 22 1 23 84] [] [] [(23,some (ar 84 1 9 aI [])),(22,sc [ms 21 1 2 aD x1,ms 23 1 9 aI []])] [(23,true)]) (bA (γ:=Nat) h (fun x_ g_=>aX [(2,V.ref 20 0),(3,V.ref 22 0),(11,vM aI p.body),(12,vI (p.body.length:Int)),(13,vI x_.2)] [(20,E.cells [V.t T.nilS,V.t T.nilS]),(21,E.tree sG 1 1 (List.map aD x1) []),(22,E.cells [ms 21 1 2 aD x1,ms 23 g_ 9 aI x_.1]),(23,ar 84 g_ 9 aI x_.1)] [20,21,22,23]) 1 (lS) ?_)))))
 rintro again5 ⟨x2,x3⟩ g4 h
 refine rq hC [] [14] [(14,vB (decide (x3<(p.body.length:Int))))] [] [] (qs (aS h (fun c1 h=> ?_) (fun c1 h=> ?_)))
 ·refine qk (qs (qb ?_))
  obtain⟨x6,hx6,h⟩:=bd h
  refine rq hC [oR aI hx6,.z (.nat 24)] [5,15,16] [(5,V.ref 24 0)] [(24,some (E.cells (cV x6)))] [(24,true)] ?_
  obtain⟨x7,hx7,x8,hx8,h⟩:=dG h
  exact dk hC bL [oV (B0 G hx7),.z (.int 0),oA (aO aI hx8),oQ (bW (r:=aI) 9 cJ x2),oQ (bW (r:=aI) 9 cJ [x7])] (fr 17 7) [] [(23,some (ar 84 (g4+1) 9 aI x8)),(22,sc [ms 21 1 2 aD x1,ms 23 (g4+1) 9 aI x8])] [] (rk hC [] [13,24] [(13,vI (wr (x3+1)))] [] [] ⟨(x8,wr (x3+1)),(g4+1),h,lS⟩)
 ·obtain rfl:=so h
  exact cU (rq hC [] [25] [] [(20,sc [ms 21 1 2 aD x1,ms 23 g4 9 aI x2])] [] (qw (lk hC [.rn 21 0 [] [20,22]] [] [] [(20,sc [ms 0 1 2 aD x1,ms 23 g4 9 aI x2]),(22,sc [ms 0 1 2 aD x1,ms 23 g4 9 aI x2]),(21,none),(0,some (E.tree sG 1 1 (List.map aD x1) []))] [(0,true)]) (qw (lk hC [.rn 23 1 [] [20,22]] [] [] [(20,sc [ms 0 1 2 aD x1,ms 1 1 9 aI x2]),(22,sc [ms 0 1 2 aD x1,ms 1 1 9 aI x2]),(23,none),(1,some (ar 84 1 9 aI x2))] [(1,true)]) (qr eW))))
theorem yF{p}{r}(h:d9 n p=some r):VQ G 65 [] [V.agg (bD p)] (V.agg [ms 0 1 2 aH r.arrays,ms 1 1 2 aC r.parts]) [ar 90 1 2 aH r.arrays,E.tree sG 0 1 (List.map aC r.parts) []]:=by
 unfold d9 at h
 refine vq aN Tryz.func65 rfl fun w X β0 hC hg=> ?_
 refine rq hC [.z (.b (true)),.z (.nat 20)] [1,2] [(1,V.tp (bM p)),(2,V.ref 20 0)] [(20,sc [V.t T.nilS,V.t T.nilS])] [(20,true)] (rq hC [.z (.nat 21)] [3] [(3,V.ref 21 0)] [(21,sc [V.t T.nilS,V.t T.nilS])] [(21,true)] (qs (rq hC [oN aH p.arrays] (fr 8 4) [(9,vM aH p.arrays),(10,vI (p.arrays.length:Int)),(11,vI 0)] [] [] (qb (qw (lk hC [.growc 21 0 22 90] [] [] [(22,some (ar 90 1 2 aH [])),(21,sc [ms 22 1 2 aH [],V.t T.nilS])] [(22,true)]) ?_)))))
 refine bA (γ:=Nat) h (fun x_ g_=>aX [(1,V.tp (bM p)),(2,V.ref 20 0),(3,V.ref 21 0),(9,vM aH p.arrays),(10,vI (p.arrays.length:Int)),(11,vI x_.2)] [(20,E.cells [V.t T.nilS,V.t T.nilS]),(21,E.cells [ms 22 g_ 2 aH x_.1,V.t T.nilS]),(22,ar 90 g_ 2 aH x_.1)] [20,21,22]) 1 (lS) ?_
 rintro again4 ⟨x1,x2⟩ g3 h
 refine rq hC [] [12] [(12,vB (decide (x2<(p.arrays.length:Int))))] [] [] (qs (aS h (fun c1 h=> ?_) (fun c1 h=> ?_)))
 ·refine qk (qs (qb ?_))
  obtain⟨x5,hx5,h⟩:=bd h
  refine rq hC [oR aH hx5,.z (.nat 23)] [5,13,14] [(5,V.ref 23 0)] [(23,sc [vS x5.name,vM rI x5.dims])] [(23,true)] ?_
  obtain⟨x6,hx6,x7,hx7,h⟩:=dG h
  exact dk hC bL [oC [] [24] (G.clone x5.dims hx6),.z (.at 5),.z (.fz 24 [21] []),.z (.int 0),oA (aO aH hx7),oQ (bW (r:=aH) 2 gH x1),oQ (bW (r:=aH) 2 gH [(⟨x5.name,x6⟩:Arr)])] (fr 15 11) [] [(24,none),(22,some (ar 90 (g3+1) 2 aH x7)),(21,sc [ms 22 (g3+1) 2 aH x7,V.t T.nilS])] [(24,true)] (rk hC [] [11,26] [(11,vI (wr (x2+1)))] [] [] ⟨(x7,wr (x2+1)),(g3+1),h,lS⟩)
 ·refine cU (qs (rq hC [oN aC p.parts] (fr 27 4) [(28,vM aC p.parts),(29,vI (p.parts.length:Int)),(30,vI 0)] [] [] (qb (qw (lk hC [.growc 21 1 23 46,.tre 23 sG 0] [] [] [(23,some (E.tree sG 0 1 (List.map aC []) [])),(21,sc [ms 22 g3 2 aH x1,ms 23 1 2 aC []])] [(23,true)]) (bA (γ:=Nat) h (fun x_ g_=>aX [(2,V.ref 20 0),(3,V.ref 21 0),(28,vM aC p.parts),(29,vI (p.parts.length:Int)),(30,vI x_.2)] [(20,E.cells [V.t T.nilS,V.t T.nilS]),(21,E.cells [ms 22 g3 2 aH x1,ms 23 g_ 2 aC x_.1]),(22,ar 90 g3 2 aH x1),(23,E.tree sG 0 g_ (List.map aC x_.1) [])] [20,21,22,23]) 1 (lS) ?_)))))
  rintro again11 ⟨x8,x9⟩ g10 h
  refine rq hC [] [31] [(31,vB (decide (x9<(p.parts.length:Int))))] [] [] (qs (aS h (fun c2 h=> ?_) (fun c2 h=> ?_)))
  ·refine qk (qs (qb ?_))
   obtain⟨x12,hx12,h⟩:=bd h
   refine rq hC [oR aC hx12,.z (.nat 24)] [7,32,33] [(7,V.ref 24 0)] [(24,some (E.cells (mL x12)))] [(24,true)] ?_
   obtain⟨x13,hx13,x14,hx14,h⟩:=dG h
   exact dk hC bL [oC [] [25,26] (R9 G hx13),.z (.lt 27 sG 0),.z (.rows (List.map aC (x8++[(⟨[],[]⟩:Part)]))),oQ (Eq.refl (ndOf sG 0)),oQ (aHh aC (⟨[],[]⟩:Part) hx14),oQ (bW (r:=aC) 2 b6 x8),oQ (bW (r:=aC) 2 b6 [(⟨[],[]⟩:Part)])] (fr 34 7) [] [(25,some (E.tree sG 1 1 (List.map aD x13.nest) [])),(26,some (ar 84 1 9 aI x13.body)),(27,some (E.tree sG 0 1 (List.map aC [(⟨[],[]⟩:Part)]) [(0,0,ms 25 1 2 aD x13.nest),(0,1,ms 26 1 9 aI x13.body)])),(23,some (E.tree sG 0 (g10+1) (List.map aC (x8++[(⟨[],[]⟩:Part)])) (n9 (List.map aC x8).length [(0,0,ms 25 1 2 aD x13.nest),(0,1,ms 26 1 9 aI x13.body)]))),(21,sc [ms 22 g3 2 aH x1,ms 23 (g10+1) 2 aC (x8++[(⟨[],[]⟩:Part)])])] [(25,true),(26,true),(27,true)] (qw (lpP hC [.unf 23 25 (aC (⟨[],[]⟩:Part)) (List.map aC (x8++[(⟨x13.nest,[]⟩:Part)])),.tre 26 sG 2,.unf 23 26 (aC (⟨x13.nest,[]⟩:Part)) (List.map aC x14),.lenc 21 1 (List.map aC x14).length] [] [] [(25,none),(26,none),(23,some (E.tree sG 0 (g10+1) (List.map aC x14) [])),(21,sc [ms 22 g3 2 aH x1,ms 23 (g10+1) 2 aC x14])] [] (a9 (Eq.refl (List.map aD x13.nest).length) (Eq.refl sG) (Z1 aC x8 (⟨[],[]⟩:Part)) (aFU aC x8 (ph:=(⟨[],[]⟩:Part)) (y:=(⟨x13.nest,[]⟩:Part)) rfl) (Eq.refl (List.map aI x13.body).length) (Eq.refl sG) (Z1 aC x8 (⟨x13.nest,[]⟩:Part)) (aBb aC (ph:=(⟨x13.nest,[]⟩:Part)) hx14 rfl) (aGh aC (⟨[],[]⟩:Part) hx14)) (by kernel_rfl)) (rk hC [] [30,41] [(30,vI (wr (x9+1)))] [] [] ⟨(x14,wr (x9+1)),(g10+1),h,lS⟩))
  ·obtain rfl:=so h
   exact cU (rq hC [] [42] [] [(20,sc [ms 22 g3 2 aH x1,ms 23 g10 2 aC x8])] [] (qw (lk hC [.rn 22 0 [] [20,21]] [] [] [(20,sc [ms 0 1 2 aH x1,ms 23 g10 2 aC x8]),(21,sc [ms 0 1 2 aH x1,ms 23 g10 2 aC x8]),(22,none),(0,some (ar 90 1 2 aH x1))] [(0,true)]) (qw (lk hC [.rn 23 1 [] [20,21]] [] [] [(20,sc [ms 0 1 2 aH x1,ms 1 1 2 aC x8]),(21,sc [ms 0 1 2 aH x1,ms 1 1 2 aC x8]),(23,none),(1,some (E.tree sG 0 1 (List.map aC x8) []))] [(1,true)]) (qr eW))))
theorem iU{a}{r}(h:eN n a=some r):PQ G 234 [V.agg (aT a)] (vI r):=by
 unfold eN at h
 refine pq aN Tryz.func234 rfl fun w X hC=> ?_
 refine rq hC [.z (.b (true))] [1,2] [(1,V.tp (bQ a))] [] [] (rq hC [oN rI a.coefs] (fr 3 4) [(3,vI (a.coefs.length:Int))] [] [] (qs (qb (jZ h (fun x_=>aX [(1,V.tp (bQ a)),(3,vI x_)] [] []) lS ?_))))
 rintro again2 x1 h
 refine qs (vj h (fun x_=>aX [(1,V.tp (bQ a)),(3,vI x1),(17,vB x_)] [] []) (fun j3 h=> ?_) (fun x5 h=> ?_))
 ·
  refine aR h (fun c1 h=> ?_) (fun c1 h=> ?_)
  ·exact rk hC (rF 8 c1) (fr 7 11) [(17,vB false)] [] [] (lE h)
  ·obtain⟨x4,hx4,h⟩:=bd h
   exact rk hC (rT 5 c1++[oR rI hx4]++rT 3 c1) (fr 7 11) [(17,vB (decide (x4=0)))] [] [] (lE h)
 ·refine aS h (fun c2 h=> ?_) (fun c2 h=> ?_)
  ·exact qk (qb (rk hC [] [3,18,19] [(3,vI (wr (x1-1)))] [] [] (lE h)))
  ·obtain rfl:=so h
   exact cU (rq hC [] [2,20] [(2,vI x1)] [] [] (qr eR))
theorem bJ{n_a0}{low}{high}{r}(h:cB n n_a0 low high=some r):PQ G 94 [vI n_a0,vI low,vI high] (vB r):=by
 unfold cB at h
 refine pq aN Tryz.func94 rfl fun w X hC=> ?_
 refine rq hC [] [6] [] [] [] (vj h (fun x_=>aX [(6,vB x_)] [] []) (fun j1 h=> ?_) (fun x2 h=> ?_))
 ·
  refine aR h (fun c1 h=> ?_) (fun c1 h=> ?_)
  ·exact rk hC (rF 4 c1) (fr 6 9) [(6,vB false)] [] [] (lE h)
  ·exact rk hC (rT 4 c1) (fr 6 9) [(6,vB (decide (n_a0≤high)))] [] [] (lE h)
 ·obtain rfl:=so h
  exact qr eR
theorem aB4{kind}{r}(h:K8 n kind=some r):PQ G 236 [vI kind] (vB r):=by
 unfold K8 at h
 refine pq aN Tryz.func236 rfl fun w X hC=> ?_
 refine rq hC [] [2] [] [] [] ?_
 obtain⟨x1,hx1,h⟩:=bd h
 obtain rfl:=so h
 exact rq hC [oV (bJ G hx1)] [2,3,4] [(2,vB x1)] [] [] (qr eR)
theorem fI{s}{r}(h:nJ n s=some r):PQ G 250 [vS s] (vB r):=by
 unfold nJ at h
 refine pq aN Tryz.func250 rfl fun w X hC=> ?_
 refine rq hC [] [2] [] [] [] (vj h (fun x_=>aX [(2,vB x_)] [] []) (fun j1 h=> ?_) (fun x3 h=> ?_))
 ·
  refine aR h (fun c1 h=> ?_) (fun c1 h=> ?_)
  ·exact rk hC (rF 3 c1) (fr 2 8) [(2,vB false)] [] [] (lE h)
  ·obtain⟨x2,hx2,h⟩:=bd h
   exact rk hC [oT c1,oT c1,oV (G.contains [65,66,67,68] s x2 hx2),oT c1] (fr 2 8) [(2,vB x2)] [] [] (lE h)
 ·obtain rfl:=so h
  exact qr eR
theorem yC(G:GS)(n:Nat)(s:List Int)(fF:FuncId)(f:Int→Option Bool)(hf: ∀(q0:Int) r,f q0=some r→PQ G fF [vI q0] (vB r)){r:Int}(h:jH n s f=some r):PQ G 292 [vM rI s,V.fn fF []] (vI r):=by
 unfold jH at h
 refine pq aN Tryz.func292 rfl fun w X hC=> ?_
 refine rq hC [] [4] [] [] [] (qs (rq hC [oN rI s] [6,7,8] [(7,vI (s.length:Int)),(8,vI 0)] [] [] (qb (jZ h (fun x_=>aX [(0,vM rI s),(1,V.fn fF []),(7,vI (s.length:Int)),(8,vI x_)] [] []) lS ?_))))
 rintro again2 x1 h
 refine rq hC [] [9] [(9,vB (decide (x1<(s.length:Int))))] [] [] (qs (aS h (fun c1 h=> ?_) (fun c1 h=> ?_)))
 ·refine qk (qs (qb (rq hC [] [5,10] [(5,vI x1)] [] [] ?_)))
  obtain⟨x3,hx3,x4,hx4,h⟩:=dG h
  refine rq hC [oR rI hx3,oV (hf x3 _ hx4)] (fr 11 6) [(16,vB x4)] [] [] (aS h (fun c2 h=> ?_) (fun c2 h=> ?_))
  ·obtain rfl:=so h
   exact rq hC [] [4,17] [(4,vI x1)] [] [] (qr eR)
  ·exact qk (rk hC [] [8,18] [(8,vI (wr (x1+1)))] [] [] (lE h))
 ·obtain rfl:=so h
  exact cU (rq hC [] [4] [(4,vI (-1))] [] [] (qr eR))
theorem dV(G:GS)(n:Nat)(s:List Int)(fF:FuncId)(f:Int→Option Bool)(hf: ∀(q0:Int) r,f q0=some r→PQ G fF [vI q0] (vB r)){r:Bool}(h:bO n s f=some r):PQ G 226 [vM rI s,V.fn fF []] (vB r):=by
 unfold bO at h
 refine pq aN Tryz.func226 rfl fun w X hC=> ?_
 refine rq hC [] [4] [] [] [] ?_
 obtain⟨x1,hx1,h⟩:=bd h
 obtain rfl:=so h
 exact rq hC [oV (yC G n s fF f hf hx1)] (fr 4 5) [(4,vB (decide ((0:Int)≤x1)))] [] [] (qr eR)
theorem tQ(G:GS)(n:Nat)(n_a0:Int){r:Bool}(h:d7 n n_a0=some r):PQ G 251 [vI n_a0] (vB r):=by
 unfold d7 at h
 refine pq aN Tryz.func251 rfl fun w X hC=> ?_
 refine rq hC [] [2] [] [] [] ?_
 obtain⟨x1,hx1,h⟩:=bd h
 obtain rfl:=so h
 exact rq hC [oV (bJ G hx1)] (fr 2 4) [(2,vB (!x1))] [] [] (qr eR)
theorem yD{list}{r}(h:n7 n list=some r):PQ G 174 [vM aH list] (vB r):=by
 unfold n7 at h
 refine pq aN Tryz.func174 rfl fun w X hC=> ?_
 refine rq hC [] [2] [] [] [] (qs (rq hC [oN aH list] [5,6,7] [(5,vM aH list),(6,vI (list.length:Int)),(7,vI 0)] [] [] (qb (jZ h (fun x_=>aX [(0,vM aH list),(5,vM aH list),(6,vI (list.length:Int)),(7,vI x_)] [] []) lS ?_))))
 rintro again2 x1 h
 refine rq hC [] [8] [(8,vB (decide (x1<(list.length:Int))))] [] [] (qs (aS h (fun c1 h=> ?_) (fun c1 h=> ?_)))
 ·refine qk (qs (qb ?_))
  obtain⟨x3,hx3,h⟩:=bd h
  refine rq hC [oR aH hx3,.z (.nat 20)] [3,4,9,10,11] [(3,vI x1),(4,V.ref 20 0)] [(20,sc [vS x3.name,vM rI x3.dims])] [(20,true)] (vj h (fun x_=>aX [(0,vM aH list),(5,vM aH list),(6,vI (list.length:Int)),(7,vI x1),(42,vB x_)] [(20,E.cells [vS x3.name,vM rI x3.dims])] [20]) (fun j4 h=> ?_) (fun x11 h=> ?_))
  ·
   obtain⟨x5,hx5,h⟩:=bd h
   refine aR h (fun c2 h=> ?_) (fun c2 h=> ?_)
   ·refine aR h (fun c3 h=> ?_) (fun c3 h=> ?_)
    ·obtain⟨x6,hx6,h⟩:=bd h
     refine aR h (fun c4 h=> ?_) (fun c4 h=> ?_)
     ·obtain⟨x7,hx7,h⟩:=bd h
      exact dk hC bL ([oV (fI G hx5)]++rF 3 c2++rF 9 c3++[oF c2,oF c3,oF c2,eF,eF,eF,oN rI x3.dims,eF,oV (bJ G hx6),eF,eF]++rF 3 c4++[oV (dV G n x3.dims 251 (fun q0=>d7 n q0) (fun q0 r h=>tQ G n q0 h) hx7),oF c4]) (fr 12 31) [(42,vB x7)] [] [] (lE h)
     ·exact dk hC bL ([oV (fI G hx5)]++rF 3 c2++rF 9 c3++[oF c2,oF c3,oF c2,eF,eF,eF,oN rI x3.dims,eF,oV (bJ G hx6),eF,eF]++rT 4 c4) (fr 12 31) [(42,vB true)] [] [] (lE h)
    ·obtain⟨x8,hx8,h⟩:=bd h
     refine aR h (fun c5 h=> ?_) (fun c5 h=> ?_)
     ·obtain⟨x9,hx9,h⟩:=bd h
      refine aR h (fun c6 h=> ?_) (fun c6 h=> ?_)
      ·obtain⟨x10,hx10,h⟩:=bd h
       exact dk hC bL ([oV (fI G hx5)]++rF 3 c2++rT 4 c3++[oR aH hx8]++rT 5 c3++[oF c2,oT c3,oF c2]++rF 3 c5++[oN rI x3.dims,oF c5,oV (bJ G hx9),oF c5,oF c5]++rF 3 c6++[oV (dV G n x3.dims 251 (fun q0=>d7 n q0) (fun q0 r h=>tQ G n q0 h) hx10),oF c6]) (fr 12 31) [(42,vB x10)] [] [] (lE h)
      ·exact dk hC bL ([oV (fI G hx5)]++rF 3 c2++rT 4 c3++[oR aH hx8]++rT 5 c3++[oF c2,oT c3,oF c2]++rF 3 c5++[oN rI x3.dims,oF c5,oV (bJ G hx9),oF c5,oF c5]++rT 4 c6) (fr 12 31) [(42,vB true)] [] [] (lE h)
     ·exact dk hC bL ([oV (fI G hx5)]++rF 3 c2++rT 4 c3++[oR aH hx8]++rT 5 c3++[oF c2,oT c3,oF c2]++rT 6 c5++sT 4) (fr 12 31) [(42,vB true)] [] [] (lE h)
   ·exact dk hC bL ([oV (fI G hx5)]++rT 5 c2++sT 10) (fr 12 31) [(42,vB true)] [] [] (lE h)
  ·refine aS h (fun c7 h=> ?_) (fun c7 h=> ?_)
   ·obtain rfl:=so h
    exact rq hC [] [2] [(2,vB false)] [] [] (qr eR)
   ·exact qk (rk hC [] [7,43] [(7,vI (wr (x1+1)))] [] [] (lE h))
 ·obtain rfl:=so h
  exact cU (rq hC [oN aH list] [2,44,45,46] [(2,vB (decide ((list.length:Int)≤4)))] [] [] (qr eR))
theorem yJ(G:GS)(n:Nat)(c:Int){r:Bool}(h:eX n c=some r):PQ G 347 [vI c] (vB r):=by
 unfold eX at h
 refine pq aN Tryz.func347 rfl fun w X hC=> ?_
 refine rq hC [] [2] [] [] [] ?_
 obtain⟨x1,hx1,h⟩:=bd h
 obtain rfl:=so h
 exact rq hC [oV (bJ G hx1)] (fr 2 4) [(2,vB (!x1))] [] [] (qr eR)
end Go.Lift
