/- The walks: the code computes what the plain functions say. -/
import Derived.Test.YtcnponfkbblhpaaGreatCModels
import Derived.Test.YtcnponfkbblhpaaGreatCWalks2
set_option maxRecDepth 10000
set_option linter.unusedVariables false
namespace Go.Lift
open Go Go.Proofs
variable (G:GS) {n:Nat}
theorem zX{a}{r}(h:oK n a=some r):PQ G 332 [V.agg (aK a)] (vS r):=by
 unfold oK at h
 refine pq aO Tryz.func332 rfl fun w X hC=> ?_
 refine rq hC [.z (.b (true))] [1,2] [(1,V.tp (aQ a))] [] [] (qs ?_)
 obtain⟨x1,hx1,h⟩:=bd h
 refine rq hC [oV (d7 G hx1)] [3,4,5] [(5,vB (!x1))] [] [] (aT h (fun c1 h=> ?_) (fun c1 h=> ?_))
 ·obtain rfl:=so h
  exact rq hC [] [2] [(2,vS [])] [] [] (qr eR)
 ·refine qk ?_
  obtain⟨x2,hx2,h⟩:=bd h
  obtain rfl:=so h
  exact rq hC [oV (wO G hx2)] [2,6,7] [(2,vS x2)] [] [] (qr eR)
theorem sM{text}{r}(h:mD n text=some r):PQ G 314 [vS text] (V.tup [V.agg (aK r.1),vB r.2]):=by
 unfold mD at h
 refine pq aO Tryz.func314 rfl fun w X hC=> ?_
 refine rq hC [.z (.nat 20)] [2,3] [(2,V.ref 20 0)] [(20,sc [V.t T.nilS,vI 0])] [(20,true)] ?_
 obtain⟨x1,hx1,h⟩:=bd h
 refine rq hC [oC [] [21] (jV G n hx1),.z (.nat 22)] [4,6] [(4,V.ref 22 0)] [(21,some (ar 3 1 1 rI x1.coefs)),(22,sc [ms 21 1 1 rI x1.coefs,vI x1.const])] [(21,true),(22,true)] (qs (rq hC [] [7,8,9] [(9,vB (decide ((40:Int)<(text.length:Int))))] [] [] (aT h (fun c1 h=> ?_) (fun c1 h=> ?_))))
 ·obtain rfl:=so h
  exact rq hC [] [3,10] [(3,vB false)] [(20,sc [V.t T.nilS,vI 0])] [] (qr eR)
 ·refine qk (rq hC [] [5] [(5,vI 0)] [] [] (qs (qb (qw (lk hC [.fz 21 [] [22]] [] [] [(22,some (E.cells (aK x1))),(21,none)] []) (jP h (fun x_=>aY [(0,vS text),(2,V.ref 20 0),(4,V.ref 22 0),(5,vI x_.2.2)] [(20,E.cells [V.t T.nilS,vI 0]),(22,E.cells [vM rI x_.1,vI x_.2.1])] [20,21,22]) lS ?_)))))
  rintro again5 ⟨x2,x3,x4⟩ h
  refine qs (vj h (fun x_=>aY [(0,vS text),(2,V.ref 20 0),(4,V.ref 22 0),(5,vI x4),(18,vB x_)] [(20,E.cells [V.t T.nilS,vI 0]),(22,E.cells [vM rI x2,vI x3])] [20,21,22]) (fun j6 h=> ?_) (fun x7 h=> ?_))
  ·
   refine aR h (fun c2 h=> ?_) (fun c2 h=> ?_)
   ·exact rk hC (rF 5 c2) (fr 11 8) [(18,vB false)] [] [] (lE h)
   ·exact rk hC (rT 5 c2) (fr 11 8) [(18,vB (decide (x4<(text.length:Int))))] [] [] (lE h)
  ·refine aT h (fun c3 h=> ?_) (fun c3 h=> ?_)
   ·refine qk (qb ?_)
    obtain⟨x8,hx8,h⟩:=bd h
    exact rk hC [oV (aB2 G hx8)] [5,19,20,21,22,23,24,25] [(5,vI x8.2)] [(22,some (E.cells (aK x8.1)))] [] (lE h)
   ·refine cT (qs ?_)
    obtain⟨x9,hx9,h⟩:=bd h
    refine rq hC [oV (zX G hx9)] (fr 26 4) [(29,vB (!decide (x9=text)))] [] [] (aT h (fun c4 h=> ?_) (fun c4 h=> ?_))
    ·obtain rfl:=so h
     exact rq hC [] [3,30] [(3,vB false)] [(20,sc [V.t T.nilS,vI 0])] [] (qr eR)
    ·obtain rfl:=so h
     exact qk (rq hC [] [3,31] [(3,vB true)] [(20,sc [vM rI x2,vI x3])] [] (qr eR))
theorem mX{text}{r}(h:jG n text=some r):VQ G 289 [] [vS text] (ms 0 1 2 aA r) [ar 63 1 2 aA r]:=by
 unfold jG at h
 refine vq aO Tryz.func289 rfl fun w X β0 hC hg=> ?_
 refine rq hC [] [2] [] [] [] (rq hC [.z (.nat 20)] [3,8] [(3,ms 20 1 2 aA [])] [(20,some (ar 63 1 2 aA []))] [(20,true)] ?_)
 obtain⟨x1,hx1,h⟩:=bd h
 refine rq hC [oC [] [21] (wT G hx1)] [4,9,10] [(4,ms 21 1 1 rS x1)] [(21,some (ar 9 1 1 rS x1))] [(21,true)] (qs (rq hC [] [5] [(5,vI 0)] [] [] (qb (bD (γ:=Nat) h (fun x_ g_=>aY [(3,ms 20 g_ 2 aA x_.1),(4,ms 21 1 1 rS x1),(5,vI x_.2)] [(20,ar 63 g_ 2 aA x_.1),(21,ar 9 1 1 rS x1)] [20,21]) 1 (lS) ?_))))
 rintro again5 ⟨x2,x3⟩ g4 h
 refine qs (vj h (fun x_=>aY [(3,ms 20 g4 2 aA x2),(4,ms 21 1 1 rS x1),(5,vI x3),(18,vB x_)] [(20,ar 63 g4 2 aA x2),(21,ar 9 1 1 rS x1)] [20,21]) (fun j6 h=> ?_) (fun x7 h=> ?_))
 ·
  refine aR h (fun c1 h=> ?_) (fun c1 h=> ?_)
  ·exact rk hC ([oN rS x1]++rF 3 c1) (fr 11 8) [(18,vB false)] [] [] (lE h)
  ·exact rk hC ([oN rS x1]++rT 3 c1) (fr 11 8) [(18,vB (decide (x3≤2)))] [] [] (lE h)
 ·refine aT h (fun c2 h=> ?_) (fun c2 h=> ?_)
  ·refine qk (qs (qb ?_))
   obtain⟨x8,hx8,x9,hx9,h⟩:=cP h
   refine rq hC [oQ (lM rS hx8),oX rS hx8,oV (sM G hx9),.z (.nat 22)] [6,7,21,22,23,24,25,26,27,28] [(6,V.ref 22 0)] [(22,some (E.cells (aK x9.1)))] [(22,true)] ?_
   obtain⟨x10,hx10,h⟩:=bd h
   exact rk hC [.z (.int 0),oA (aP aA hx10),oQ (bT (r:=aA) 2 aU x2),oQ (bT (r:=aA) 2 aU [x9.1])] [3,29,30,31,32] [(3,ms 20 (g4+1) 2 aA x10)] [(20,some (ar 63 (g4+1) 2 aA x10))] [] (rk hC [] [5,19,20] [(5,vI (wr (x3+1)))] [] [] ⟨(x10,wr (x3+1)),(g4+1),h,lS⟩)
  ·obtain rfl:=so h
   exact cT (rq hC [] [2,33] [(2,ms 20 g4 2 aA x2)] [] [] (qw (lk hC [.ren 2 20 0] [2] [(2,ms 0 1 2 aA x2)] [(0,some (ar 63 1 2 aA x2)),(20,none)] [(0,true)]) (qr eW)))
theorem yD{s}{r}(h:q9 n s=some r):VQ G 262 [] [vS s] (ms 0 1 1 rS r) [ar 9 1 1 rS r]:=by
 unfold q9 at h
 refine vq aO Tryz.func262 rfl fun w X β0 hC hg=> ?_
 refine rq hC [] [2] [] [] [] ?_
 obtain⟨x1,hx1,h⟩:=bd h
 refine rq hC [oC [] [20] (wT G hx1)] [3,6,7] [(3,ms 20 1 1 rS x1)] [(20,some (ar 9 1 1 rS x1))] [(20,true)] (rq hC [.z (.nat 21)] [4,8] [(4,ms 21 1 1 rS [])] [(21,some (ar 9 1 1 rS []))] [(21,true)] (qs (rq hC [] [5] [(5,vI 0)] [] [] (qb (bD (γ:=Nat) h (fun x_ g_=>aY [(3,ms 20 1 1 rS x1),(4,ms 21 g_ 1 rS x_.1),(5,vI x_.2)] [(20,ar 9 1 1 rS x1),(21,ar 9 g_ 1 rS x_.1)] [20,21]) 1 (lS) ?_)))))
 rintro again5 ⟨x2,x3⟩ g4 h
 refine qs (rq hC [oN rS x1] (fr 9 4) [(12,vB (decide (x3<(x1.length:Int))))] [] [] (aT h (fun c1 h=> ?_) (fun c1 h=> ?_)))
 ·refine qk ?_
  obtain⟨j6,hj6,h⟩:=R7 h
  refine n4 (γ:=Nat) (j:=j6) (r:=r) (fun x_ g_=>aY [(3,ms 20 1 1 rS x1),(4,ms 21 g_ 1 rS x_),(5,vI x3)] [(20,ar 9 1 1 rS x1),(21,ar 9 g_ 1 rS x_)] [20,21]) ?_ ?_
  ·
   refine qb ?_
   obtain⟨x7,hx7,h⟩:=bd h
   refine rq hC [oQ (lM rS hx7),oX rS hx7] (fr 15 5) [(19,vB (!decide (x7=[])))] [] [] (aT h (fun c2 h=> ?_) (fun c2 h=> ?_))
   ·obtain⟨x8,hx8,h⟩:=bd h
    exact rk hC [oQ (lM rS hx7),oX rS hx7,.z (.int 0),oA (aP rS hx8),oQ (bT (r:=rS) 1 (fun _=>rfl) x2),oQ (bT (r:=rS) 1 (fun _=>rfl) [x7])] [4,20,21,22,23,24,25,26] [(4,ms 21 (g4+1) 1 rS x8)] [(21,some (ar 9 (g4+1) 1 rS x8))] [] ⟨x8,(g4+1),h,lS⟩
   ·exact qk ⟨x2,g4,h,lS⟩
  ·rintro x9 g10 h
   subst hj6
   exact rk hC [] [5,13,14] [(5,vI (wr (x3+1)))] [] [] ⟨(x9,wr (x3+1)),g10,h,lS⟩
 ·obtain rfl:=so h
  exact cT (rq hC [] [2,27] [(2,ms 21 g4 1 rS x2)] [] [] (qw (lk hC [.ren 2 21 0] [2] [(2,ms 0 1 1 rS x2)] [(0,some (ar 9 1 1 rS x2)),(21,none)] [(0,true)]) (qr eW)))
theorem aDA{line}{r}(h:H5 n line=some r):PQ G 264 [vS line] (V.agg (jD r)):=by
 unfold H5 at h
 refine pq aO Tryz.func264 rfl fun w X hC=> ?_
 refine rq hC [.z (.nat 20)] [2] [(2,V.ref 20 0)] [(20,sc [V.t T.nilS,V.t T.nilS])] [(20,true)] ?_
 obtain⟨x1,hx1,h⟩:=bd h
 refine rq hC [oC [] [21] (yD G hx1)] [3,4,5] [(3,ms 21 1 1 rS x1)] [(21,some (ar 9 1 1 rS x1))] [(21,true)] (qs (rq hC [oN rS x1] [6,7,8] [(8,vB (!decide ((x1.length:Int)=3)))] [] [] (aT h (fun c1 h=> ?_) (fun c1 h=> ?_))))
 ·obtain rfl:=so h
  exact rq hC [] [9] [] [(20,sc [V.t T.nilS,V.t T.nilS])] [] (qr eR)
 ·refine qk (qs ?_)
  obtain⟨x2,hx2,x3,hx3,x4,hx4,h⟩:=kG h
  obtain⟨x5,hx5,h⟩:=bd h
  obtain rfl:=so h
  exact dk hC bC [oQ (lM rS hx2),oX rS hx2,oC [] [22] (mX G hx3),oQ (lM rS hx4),oX rS hx4,oC [] [23] (mX G hx5)] (fr 10 9) [] [(22,some (ar 63 1 2 aA x3)),(23,some (ar 63 1 2 aA x5)),(20,sc [ms 22 1 2 aA x3,ms 23 1 2 aA x5])] [(22,true),(23,true)] (qw (lk hC [.fz 22 [] [20]] [] [] [(20,sc [vM aA x3,ms 23 1 2 aA x5]),(22,none)] []) (qw (lk hC [.fz 23 [] [20]] [] [] [(20,sc [vM aA x3,vM aA x5]),(23,none)] []) (qr eR)))
theorem B9{s}{at_a1}{end_a2}{r}(h:uJ n s at_a1 end_a2=some r):PQ G 315 [vS s,vI at_a1,vY end_a2] (vI r):=by
 unfold uJ at h
 refine pq aO Tryz.func315 rfl fun w X hC=> ?_
 refine rq hC [] [6] [] [] [] (qs (rq hC [] [7,8] [(7,vI at_a1)] [] [] (qb (jP h (fun x_=>aY [(0,vS s),(2,vY end_a2),(7,vI x_)] [] []) lS ?_))))
 rintro again2 x1 h
 refine qs (rq hC [] (fr 9 4) [(12,vB (decide (x1<(s.length:Int))))] [] [] (aT h (fun c1 h=> ?_) (fun c1 h=> ?_)))
 ·refine qk (qs (qb ?_))
  obtain⟨x3,hx3,h⟩:=bd h
  refine rq hC [oY hx3] (fr 15 5) [(19,vB (decide ((x3.toNat:Int)=(end_a2.toNat:Int))))] [] [] (aT h (fun c2 h=> ?_) (fun c2 h=> ?_))
  ·obtain rfl:=so h
   exact rq hC [] [6,20] [(6,vI x1)] [] [] (qr eR)
  ·exact qk (rk hC [] [7,13,14] [(7,vI (wr (x1+1)))] [] [] (lE h))
 ·obtain rfl:=so h
  exact cT (rq hC [] [6] [(6,vI (-1))] [] [] (qr eR))
theorem pM{s}{at_a1}{r}(h:jM n s at_a1=some r):PQ G 290 [vS s,vI at_a1] (V.tup [V.agg (cB r.1),vI r.2]):=by
 unfold jM at h
 refine pq aO Tryz.func290 rfl fun w X hC=> ?_
 refine rq hC [.z (.nat 20)] [4,5] [(4,V.ref 20 0)] [(20,sc [vS [],V.t T.nilS])] [(20,true)] ?_
 obtain⟨x1,hx1,h⟩:=bd h
 refine rq hC [oV (B9 G hx1)] (fr 6 4) [(6,vI x1)] [] [] (qs (vj h (fun x_=>aY [(0,vS s),(1,vI at_a1),(4,V.ref 20 0),(6,vI x1),(20,vB x_)] [(20,E.cells [vS [],V.t T.nilS])] [20]) (fun j2 h=> ?_) (fun x4 h=> ?_)))
 ·
  refine aR h (fun c1 h=> ?_) (fun c1 h=> ?_)
  ·obtain⟨x3,hx3,h⟩:=bd h
   exact rk hC (rF 4 c1++[oY hx3,oF c1,oF c1]) (fr 10 11) [(20,vB (!decide ((x3.toNat:Int)=91)))] [] [] (lE h)
  ·exact rk hC (rT 6 c1) (fr 10 11) [(20,vB true)] [] [] (lE h)
 ·refine aT h (fun c2 h=> ?_) (fun c2 h=> ?_)
  ·obtain rfl:=so h
   exact rq hC [] [5,21] [(5,vI (-1))] [(20,sc [vS [],V.t T.nilS])] [] (qr eR)
  ·refine qk (qs ?_)
   obtain⟨x5,hx5,x6,hx6,x7,hx7,h⟩:=kG h
   obtain rfl:=so h
   exact dk hC bC [oS hx5,oS hx6,oC [] [21] (mX G hx7)] [5,22,23,24,25,26,27,28,29,30,31,32,33,34,35] [(5,vI (wr (x1+1)))] [(21,some (ar 63 1 2 aA x7)),(20,sc [vS x5,ms 21 1 2 aA x7])] [(21,true)] (qw (lk hC [.fz 21 [] [20]] [] [] [(20,sc [vS x5,vM aA x7]),(21,none)] []) (qr eR))
theorem aBW(G:GS)(n:Nat)(self:(List UInt8)→Int→Int→Option (Expr×Int))(hself: ∀(q0:List UInt8) (q1:Int) (q2:Int) {r:Expr×Int},self q0 q1 q2=some r→PQ G 291 [vS q0,vI q1,vI q2] (V.tup [V.agg (cQ r.1),vI r.2]))(s:List UInt8)(at_a1:Int)(levels:Int){r:Expr×Int}(h:yZ n self s at_a1 levels=some r):PQ G 316 [vS s,vI at_a1,vI levels] (V.tup [V.agg (cQ r.1),vI r.2]):=by
 unfold yZ at h
 refine pq aO Tryz.func316 rfl fun w X hC=> ?_
 refine rq hC [.z (.nat 20)] [6,7] [(6,V.ref 20 0)] [(20,sc [vI 0,vI 0,V.t T.nilS,vI 0,vS [],V.t T.nilS,V.t T.nilS])] [(20,true)] ?_
 obtain⟨x1,hx1,h⟩:=bd h
 refine rq hC [oV (hself s at_a1 levels hx1),.z (.nat 21)] [8,9,13,14,15,16,17,18,19] [(8,V.ref 21 0),(9,vI x1.2)] [(21,some (E.cells (cQ x1.1)))] [(21,true)] (qs (vj h (fun x_=>aY [(0,vS s),(2,vI levels),(6,V.ref 20 0),(8,V.ref 21 0),(9,vI x1.2),(27,vB x_)] [(20,E.cells [vI 0,vI 0,V.t T.nilS,vI 0,vS [],V.t T.nilS,V.t T.nilS]),(21,E.cells (cQ x1.1))] [20,21]) (fun j2 h=> ?_) (fun x3 h=> ?_)))
 ·
  refine aR h (fun c1 h=> ?_) (fun c1 h=> ?_)
  ·exact rk hC (rF 5 c1) (fr 20 8) [(27,vB (decide ((s.length:Int)≤x1.2)))] [] [] (lE h)
  ·exact rk hC (rT 5 c1) (fr 20 8) [(27,vB true)] [] [] (lE h)
 ·refine aT h (fun c2 h=> ?_) (fun c2 h=> ?_)
  ·obtain rfl:=so h
   exact rq hC [] [7,28] [(7,vI (-1))] [(20,sc [vI 0,vI 0,V.t T.nilS,vI 0,vS [],V.t T.nilS,V.t T.nilS])] [] (qr eR)
  ·refine qk (rq hC [] [10] [(10,vI 4)] [] [] (vj h (fun x_=>aY [(0,vS s),(2,vI levels),(6,V.ref 20 0),(8,V.ref 21 0),(9,vI x1.2),(10,vI x_)] [(20,E.cells [vI 0,vI 0,V.t T.nilS,vI 0,vS [],V.t T.nilS,V.t T.nilS]),(21,E.cells (cQ x1.1))] [20,21]) (fun j4 h=> ?_) (fun x6 h=> ?_)))
   ·
    obtain⟨x5,hx5,h⟩:=bd h
    refine rq hC [oY hx5] [29,30,31] [(31,vY x5)] [] [] (qb (rq hC [] [32,33] [(32,vB (decide ((x5.toNat:Int)=45)))] [] [] (aT h (fun c3 h=> ?_) (fun c3 h=> ?_))))
    ·exact rk hC [] [10] [(10,vI 5)] [] [] (lE h)
    ·refine rq hC [] [34,35] [(34,vB (decide ((x5.toNat:Int)=42)))] [] [] (aT h (fun c4 h=> ?_) (fun c4 h=> ?_))
     ·exact rk hC [] [10] [(10,vI 6)] [] [] (lE h)
     ·exact qk (lE h)
   ·obtain⟨x7,hx7,h⟩:=bd h
    refine rq hC [oV (hself s (wr (x1.2+1)) levels hx7),.z (.nat 22)] [11,12,36,37,38,39,40,41,42,43] [(11,V.ref 22 0),(12,vI x7.2)] [(22,some (E.cells (cQ x7.1)))] [(22,true)] (qs (vj h (fun x_=>aY [(6,V.ref 20 0),(8,V.ref 21 0),(10,vI x6),(11,V.ref 22 0),(12,vI x7.2),(51,vB x_)] [(20,E.cells [vI 0,vI 0,V.t T.nilS,vI 0,vS [],V.t T.nilS,V.t T.nilS]),(21,E.cells (cQ x1.1)),(22,E.cells (cQ x7.1))] [20,21,22]) (fun j8 h=> ?_) (fun x9 h=> ?_)))
    ·
     refine aR h (fun c5 h=> ?_) (fun c5 h=> ?_)
     ·exact rk hC (rF 5 c5) (fr 44 8) [(51,vB (decide ((s.length:Int)≤x7.2)))] [] [] (lE h)
     ·exact rk hC (rT 5 c5) (fr 44 8) [(51,vB true)] [] [] (lE h)
    ·refine aT h (fun c6 h=> ?_) (fun c6 h=> ?_)
     ·obtain rfl:=so h
      exact rq hC [] [7,52] [(7,vI (-1))] [(20,sc [vI 0,vI 0,V.t T.nilS,vI 0,vS [],V.t T.nilS,V.t T.nilS])] [] (qr eR)
     ·obtain rfl:=so h
      exact qk (rq hC [.z (.int 2),.z (.rows (List.map aI [x1.1,x7.1])),oQ (aIC x1.1 x7.1)] [7,53,54,55,56,57,58,59] [(7,vI (wr (x7.2+1)))] [(20,sc [vI x6,vI 0,V.t T.nilS,vI 0,vS [],V.t T.nilS,vM aI [x1.1,x7.1]])] [] (qr eR))
theorem aBY(G:GS): ∀(n:Nat) (s:List UInt8) (at_a1:Int) (levels:Int) {r:Expr×Int} (h:s_l3Parse n s at_a1 levels=some r),PQ G 291 [vS s,vI at_a1,vI levels] (V.tup [V.agg (cQ r.1),vI r.2]):=by
 intro n
 induction n with
 |zero=>intro s at_a1 levels r h;rw [s_l3Parse.eq_def] at h;cases h
 |succ n ih=>
  intro s at_a1 levels r h
  rw [s_l3Parse.eq_def] at h;dsimp only at h
  refine pq aO Tryz.func291 rfl fun w X hC=> ?_
  refine rq hC [.z (.nat 20)] [6,7] [(6,V.ref 20 0)] [(20,sc [vI 0,vI 0,V.t T.nilS,vI 0,vS [],V.t T.nilS,V.t T.nilS])] [(20,true)] (qs (vj h (fun x_=>aY [(0,vS s),(1,vI at_a1),(2,vI levels),(6,V.ref 20 0),(26,vB x_)] [(20,E.cells [vI 0,vI 0,V.t T.nilS,vI 0,vS [],V.t T.nilS,V.t T.nilS])] [20]) (fun j1 h=> ?_) (fun x2 h=> ?_)))
  ·
   refine aR h (fun c1 h=> ?_) (fun c1 h=> ?_)
   ·refine aR h (fun c2 h=> ?_) (fun c2 h=> ?_)
    ·exact rk hC (rF 3 c1++rF 5 c2) (fr 15 12) [(26,vB (decide ((s.length:Int)≤at_a1)))] [] [] (lE h)
    ·exact rk hC (rF 3 c1++rT 5 c2) (fr 15 12) [(26,vB true)] [] [] (lE h)
   ·exact rk hC (rT 3 c1++sT 5) (fr 15 12) [(26,vB true)] [] [] (lE h)
  ·refine aT h (fun c3 h=> ?_) (fun c3 h=> ?_)
   ·obtain rfl:=so h
    exact rq hC [] [7,27] [(7,vI (-1))] [(20,sc [vI 0,vI 0,V.t T.nilS,vI 0,vS [],V.t T.nilS,V.t T.nilS])] [] (qr eR)
   ·refine qk (qs (qb ?_))
    obtain⟨x3,hx3,h⟩:=bd h
    refine rq hC [oY hx3] (fr 28 5) [(28,vB (decide ((x3.toNat:Int)=123)))] [] [] (aT h (fun c4 h=> ?_) (fun c4 h=> ?_))
    ·obtain⟨x4,hx4,h⟩:=bd h
     refine rq hC [oV (B9 G hx4)] [8,33,34,35] [(8,vI x4)] [] [] (qs (rq hC [] [36,37] [(37,vB (decide (x4<0)))] [] [] (aT h (fun c5 h=> ?_) (fun c5 h=> ?_))))
     ·obtain rfl:=so h
      exact rq hC [] [7,38] [(7,vI (-1))] [(20,sc [vI 0,vI 0,V.t T.nilS,vI 0,vS [],V.t T.nilS,V.t T.nilS])] [] (qr eR)
     ·refine qk ?_
      obtain⟨x5,hx5,x6,hx6,h⟩:=cP h
      obtain rfl:=so h
      exact rq hC [oS hx5,oV (sM G hx6),.z (.nat 21)] [9,10,39,40,41,42,43,44,45,46,47] [(9,V.ref 21 0)] [(21,some (E.cells (aK x6.1)))] [(21,true)] (rq hC [] [7,48,49,50,51] [(7,vI (wr (x4+1)))] [(20,sc [vI 2,vI 0,vM rI x6.1.coefs,vI x6.1.const,vS [],V.t T.nilS,V.t T.nilS])] [] (qr eR))
    ·refine vj h (fun x_=>aY [(0,vS s),(1,vI at_a1),(2,vI levels),(6,V.ref 20 0),(52,vB x_)] [(20,E.cells [vI 0,vI 0,V.t T.nilS,vI 0,vS [],V.t T.nilS,V.t T.nilS])] [20]) (fun j7 h=> ?_) (fun x8 h=> ?_)
     ·
      refine aR h (fun c6 h=> ?_) (fun c6 h=> ?_)
      ·exact rk hC ([oY hx3]++rF 5 c6) (fr 52 11) [(52,vB false)] [] [] (lE h)
      ·exact rk hC ([oY hx3]++rT 3 c6++[oY hx3,oT c6,oT c6]) (fr 52 11) [(52,vB (decide ((x3.toNat:Int)≤68)))] [] [] (lE h)
     ·refine aT h (fun c7 h=> ?_) (fun c7 h=> ?_)
      ·obtain⟨x9,hx9,h⟩:=bd h
       obtain rfl:=so h
       exact rq hC [oV (pM G hx9),.z (.nat 21)] [11,12,63,64,65,66,67,68] [(11,V.ref 21 0),(12,vI x9.2)] [(21,some (E.cells (cB x9.1)))] [(21,true)] (rq hC [] [7,69,70,71] [(7,vI x9.2)] [(20,sc [vI 3,vI 0,V.t T.nilS,vI 0,vS x9.1.array,vM aA x9.1.subs,V.t T.nilS])] [] (qr eR))
      ·refine rq hC [oY hx3] (fr 72 5) [(72,vB (decide ((x3.toNat:Int)=40)))] [] [] (aT h (fun c8 h=> ?_) (fun c8 h=> ?_))
       ·obtain⟨x10,hx10,h⟩:=bd h
        obtain rfl:=so h
        exact rq hC [oV (aBW G n (s_l3Parse n) (fun q0 q1 q2 r h=>ih q0 q1 q2 h) s (wr (at_a1+1)) (wr (levels-1)) hx10)] [7,77,78,79,80,81,82,83,84] [(7,vI x10.2)] [(20,some (E.cells (cQ x10.1)))] [] (qr eR)
       ·refine qk ?_
        obtain⟨x11,hx11,h⟩:=bd h
        refine rq hC [oV (yC G hx11)] [13,14,85,86,87,88,89,90] [(13,vI x11.1),(14,vI x11.2)] [] [] (qs (rq hC [] [91,92,93] [(93,vB (decide (x11.2=at_a1)))] [] [] (aT h (fun c9 h=> ?_) (fun c9 h=> ?_))))
        ·obtain rfl:=so h
         exact rq hC [] [7,94] [(7,vI (-1))] [(20,sc [vI 0,vI 0,V.t T.nilS,vI 0,vS [],V.t T.nilS,V.t T.nilS])] [] (qr eR)
        ·obtain rfl:=so h
         exact qk (rq hC [] [7,95,96,97] [(7,vI x11.2)] [(20,sc [vI 1,vI x11.1,V.t T.nilS,vI 0,vS [],V.t T.nilS,V.t T.nilS])] [] (qr eR))
theorem o7{list}{r}(h:kJ n list=some r):PQ G 293 [vM aA list] (vS r):=by
 unfold kJ at h
 refine pq aO Tryz.func293 rfl fun w X hC=> ?_
 refine rq hC [] [2] [] [] [] (rq hC [] [3] [(3,vS [])] [] [] (qs (rq hC [] [4] [(4,vI 0)] [] [] (qb (jP h (fun x_=>aY [(0,vM aA list),(3,vS x_.1),(4,vI x_.2)] [] []) lS ?_)))))
 rintro again3 ⟨x1,x2⟩ h
 refine qs (rq hC [oN aA list] (fr 5 4) [(8,vB (decide (x2<(list.length:Int))))] [] [] (aT h (fun c1 h=> ?_) (fun c1 h=> ?_)))
 ·refine qk (qs (qb (vj h (fun x_=>aY [(0,vM aA list),(3,vS x_),(4,vI x2)] [] []) (fun j4 h=> ?_) (fun x6 h=> ?_))))
  ·
   refine rq hC [] [11,12] [(12,vB (decide ((0:Int)<x2)))] [] [] (aT h (fun c2 h=> ?_) (fun c2 h=> ?_))
   ·obtain⟨x5,hx5,h⟩:=bd h
    exact rk hC [oS hx5] [3,13,14] [(3,vS x5)] [] [] (lE h)
   ·exact qk (lE h)
  ·obtain⟨x7,hx7,x8,hx8,x9,hx9,h⟩:=kG h
   exact rk hC [oR aA hx7,oV (wO G hx8),oS hx9] [3,15,16,17,18,19,20,21] [(3,vS x9)] [] [] (rk hC [] [4,9,10] [(4,vI (wr (x2+1)))] [] [] (lE h))
 ·obtain rfl:=so h
  exact cT (rq hC [] [2,22] [(2,vS x1)] [] [] (qr eR))
theorem l9{a}{r}(h:iA n a=some r):PQ G 268 [V.agg (cB a)] (vS r):=by
 unfold iA at h
 refine pq aO Tryz.func268 rfl fun w X hC=> ?_
 refine rq hC [.z (.b (true))] [1,2] [(1,V.tp (dO a))] [] [] (qs ?_)
 obtain⟨x1,hx1,x2,hx2,x3,hx3,h⟩:=kG h
 obtain⟨x4,hx4,h⟩:=bd h
 obtain rfl:=so h
 exact dk hC bC [oS hx1,oV (o7 G hx2),oS hx3,oS hx4] (fr 2 9) [(2,vS x4)] [] [] (qr eR)
theorem O3(G:GS): ∀(n:Nat) (e:Expr) {r:(List UInt8)} (h:s_l3Text n e=some r),PQ G 269 [V.agg (cQ e)] (vS r):=by
 intro n
 induction n with
 |zero=>intro e r h;rw [s_l3Text.eq_def] at h;cases h
 |succ n ih=>
  intro e r h
  rw [s_l3Text.eq_def] at h;dsimp only at h
  refine pq aO Tryz.func269 rfl fun w X hC=> ?_
  refine rq hC [.z (.b (true))] [1,2] [(1,V.tp (fA e))] [] [] (qs (rq hC [] [3,4] [(4,vI e.kind)] [] [] (qb (rq hC [] [5,6] [(5,vB (decide (e.kind=1)))] [] [] (aT h (fun c1 h=> ?_) (fun c1 h=> ?_))))))
  ·obtain⟨x1,hx1,h⟩:=bd h
   obtain rfl:=so h
   exact rq hC [oV (sB G n e.num hx1)] [2,7,8,9] [(2,vS x1)] [] [] (qr eR)
  ·refine rq hC [] [10,11] [(10,vB (decide (e.kind=2)))] [] [] (aT h (fun c2 h=> ?_) (fun c2 h=> ?_))
   ·obtain⟨x2,hx2,x3,hx3,x4,hx4,h⟩:=kG h
    obtain rfl:=so h
    exact rq hC [oV (wO G hx2),oS hx3,oS hx4] [2,12,13,14,15,16] [(2,vS x4)] [] [] (qr eR)
   ·refine rq hC [] [17,18] [(17,vB (decide (e.kind=3)))] [] [] (aT h (fun c3 h=> ?_) (fun c3 h=> ?_))
    ·obtain⟨x5,hx5,h⟩:=bd h
     obtain rfl:=so h
     exact rq hC [oV (l9 G hx5)] [2,19,20,21] [(2,vS x5)] [] [] (qr eR)
    ·refine qk (qs ?_)
     obtain⟨x6,hx6,x7,hx7,x8,hx8,h⟩:=kG h
     obtain⟨x9,hx9,x10,hx10,x11,hx11,h⟩:=kG h
     obtain⟨x12,hx12,x13,hx13,x14,hx14,h⟩:=kG h
     obtain rfl:=so h
     exact dk hC bC [.z (.row (d5 x6)),oQ (eS aI hx6 (cM x6)),oV (ih x6 hx7),oS hx8,oS hx9,oS hx10,.z (.row (d5 x11)),oQ (eS aI hx11 (cM x11)),oV (ih x11 hx12),oS hx13,oS hx14] [2,22,23,24,25,26,27,28,29,30,31,32,33,34,35,36,37,38,39,40,41,42,43] [(2,vS x14)] [] [] (qr eR)
theorem P7{s}{r}(h:rA n s=some r):PQ G 292 [V.agg (cO s)] (vS r):=by
 unfold rA at h
 refine pq aO Tryz.func292 rfl fun w X hC=> ?_
 refine rq hC [.z (.b (true))] [1,2] [(1,V.tp (n6 s))] [] [] (qs ?_)
 obtain⟨x1,hx1,h⟩:=bd h
 refine rq hC [oV (pT G hx1)] [3,4,5] [(5,vB (!x1))] [] [] (aT h (fun c1 h=> ?_) (fun c1 h=> ?_))
 ·obtain rfl:=so h
  exact rq hC [] [2] [(2,vS [])] [] [] (qr eR)
 ·refine qk (qs ?_)
  obtain⟨x2,hx2,x3,hx3,x4,hx4,h⟩:=kG h
  obtain⟨x5,hx5,h⟩:=bd h
  obtain rfl:=so h
  exact dk hC bC [oV (l9 G hx2),oS hx3,oV (O3 G n s.value hx4),oS hx5] [2,6,7,8,9,10,11,12,13] [(2,vS x5)] [] [] (qr eR)
theorem vK{text}{r}(h:mK n text=some r):PQ G 265 [vS text] (V.tup [V.agg (cO r.1),vB r.2]):=by
 unfold mK at h
 refine pq aO Tryz.func265 rfl fun w X hC=> ?_
 refine rq hC [.z (.nat 20)] [2,3] [(2,V.ref 20 0)] [(20,sc [vS [],V.t T.nilS,vI 0,vI 0,V.t T.nilS,vI 0,vS [],V.t T.nilS,V.t T.nilS])] [(20,true)] (qs (rq hC [] [9,10,11] [(11,vB (decide ((text.length:Int)<4)))] [] [] (aT h (fun c1 h=> ?_) (fun c1 h=> ?_))))
 ·obtain rfl:=so h
  exact rq hC [] [3,12] [(3,vB false)] [(20,sc [vS [],V.t T.nilS,vI 0,vI 0,V.t T.nilS,vI 0,vS [],V.t T.nilS,V.t T.nilS])] [] (qr eR)
 ·refine qk ?_
  obtain⟨x1,hx1,h⟩:=bd h
  refine rq hC [oV (pM G hx1),.z (.nat 21)] [4,5,13,14,15,16,17] [(4,V.ref 21 0),(5,vI x1.2)] [(21,some (E.cells (cB x1.1)))] [(21,true)] (qs (vj h (fun x_=>aY [(0,vS text),(2,V.ref 20 0),(4,V.ref 21 0),(5,vI x1.2),(25,vB x_)] [(20,E.cells [vS [],V.t T.nilS,vI 0,vI 0,V.t T.nilS,vI 0,vS [],V.t T.nilS,V.t T.nilS]),(21,E.cells (cB x1.1))] [20,21]) (fun j2 h=> ?_) (fun x3 h=> ?_)))
  ·
   refine aR h (fun c2 h=> ?_) (fun c2 h=> ?_)
   ·exact rk hC (rF 5 c2) (fr 18 8) [(25,vB (decide ((text.length:Int)≤x1.2)))] [] [] (lE h)
   ·exact rk hC (rT 5 c2) (fr 18 8) [(25,vB true)] [] [] (lE h)
  ·refine aT h (fun c3 h=> ?_) (fun c3 h=> ?_)
   ·obtain rfl:=so h
    exact rq hC [] [3,26] [(3,vB false)] [(20,sc [vS [],V.t T.nilS,vI 0,vI 0,V.t T.nilS,vI 0,vS [],V.t T.nilS,V.t T.nilS])] [] (qr eR)
   ·refine qk ?_
    obtain⟨x4,hx4,h⟩:=bd h
    refine rq hC [oV (aBY G n text (wr (x1.2+1)) 5 hx4),.z (.nat 22)] [6,7,27,28,29,30,31,32,33] [(6,V.ref 22 0)] [(22,some (E.cells (cQ x4.1)))] [(22,true)] (rq hC [.z (.nat 23)] [8,34,35,36] [(8,V.ref 23 0)] [(23,sc [vS x1.1.array,vM aA x1.1.subs,vI x4.1.kind,vI x4.1.num,vM rI x4.1.index.coefs,vI x4.1.index.const,vS x4.1.read.array,vM aA x4.1.read.subs,vM aI x4.1.kids])] [(23,true)] (qs ?_))
    obtain⟨x5,hx5,h⟩:=bd h
    refine rq hC [oV (P7 G hx5)] (fr 37 4) [(40,vB (!decide (x5=text)))] [] [] (aT h (fun c4 h=> ?_) (fun c4 h=> ?_))
    ·obtain rfl:=so h
     exact rq hC [] [3,41] [(3,vB false)] [(20,sc [vS [],V.t T.nilS,vI 0,vI 0,V.t T.nilS,vI 0,vS [],V.t T.nilS,V.t T.nilS])] [] (qr eR)
    ·obtain rfl:=so h
     exact qk (rq hC [] [3,42] [(3,vB true)] [(20,sc [vS x1.1.array,vM aA x1.1.subs,vI x4.1.kind,vI x4.1.num,vM rI x4.1.index.coefs,vI x4.1.index.const,vS x4.1.read.array,vM aA x4.1.read.subs,vM aI x4.1.kids])] [] (qr eR))
theorem aBT{w_a0}{r}(h:yY n w_a0=some r):PQ G 263 [vM rS w_a0] (V.agg [vS r.name,vM rI r.dims]):=by
 unfold yY at h
 refine pq aO Tryz.func263 rfl fun w X hC=> ?_
 refine rq hC [.z (.nat 20)] [2] [(2,V.ref 20 0)] [(20,sc [vS [],V.t T.nilS])] [(20,true)] (rq hC [.z (.nat 21)] [3,7] [(3,V.ref 21 0)] [(21,sc [vS [],V.t T.nilS])] [(21,true)] (qs (rq hC [] [4] [(4,vI 1)] [] [] (qb (qw (lk hC [.growc 21 1 22 3] [] [] [(22,some (ar 3 1 1 rI [])),(21,sc [vS [],ms 22 1 1 rI []])] [(22,true)]) ?_)))))
 refine bD (γ:=Nat) h (fun x_ g_=>aY [(0,vM rS w_a0),(2,V.ref 20 0),(3,V.ref 21 0),(4,vI x_.2.2)] [(20,E.cells [vS [],V.t T.nilS]),(21,E.cells [vS x_.1,ms 22 g_ 1 rI x_.2.1]),(22,ar 3 g_ 1 rI x_.2.1)] [20,21,22]) 1 (lS) ?_
 rintro again5 ⟨x1,x2,x3⟩ g4 h
 refine qs (vj h (fun x_=>aY [(0,vM rS w_a0),(2,V.ref 20 0),(3,V.ref 21 0),(4,vI x3),(15,vB x_)] [(20,E.cells [vS [],V.t T.nilS]),(21,E.cells [vS x1,ms 22 g4 1 rI x2]),(22,ar 3 g4 1 rI x2)] [20,21,22]) (fun j6 h=> ?_) (fun x7 h=> ?_))
 ·
  refine aR h (fun c1 h=> ?_) (fun c1 h=> ?_)
  ·exact rk hC ([oN rS w_a0]++rF 3 c1) (fr 8 8) [(15,vB false)] [] [] (lE h)
  ·exact rk hC ([oN rS w_a0]++rT 3 c1) (fr 8 8) [(15,vB (decide (x3≤4)))] [] [] (lE h)
 ·refine aT h (fun c2 h=> ?_) (fun c2 h=> ?_)
  ·refine qk ?_
   obtain⟨j8,hj8,h⟩:=R7 h
   refine n4 (γ:=Nat) (j:=j8) (r:=r) (fun x_ g_=>aY [(0,vM rS w_a0),(2,V.ref 20 0),(3,V.ref 21 0),(4,vI x3)] [(20,E.cells [vS [],V.t T.nilS]),(21,E.cells [vS x_.1,ms 22 g_ 1 rI x_.2]),(22,ar 3 g_ 1 rI x_.2)] [20,21,22]) ?_ ?_
   ·
    refine qb (qs (rq hC [] [18,19] [(19,vB (decide (x3=1)))] [] [] (aT h (fun c3 h=> ?_) (fun c3 h=> ?_))))
    ·obtain⟨x9,hx9,h⟩:=bd h
     exact rq hC [oR rS hx9] (fr 20 4) [] [(21,sc [vS x9,ms 22 g4 1 rI x2])] [] (cT ⟨(x9,x2),g4,h,lS⟩)
    ·refine qk ?_
     obtain⟨x10,hx10,x11,hx11,h⟩:=cP h
     refine rq hC [oR rS hx10,oV (P5 G hx11)] [5,6,24,25,26,27,28,29,30,31] [(5,vI x11.1)] [] [] ?_
     obtain⟨x12,hx12,h⟩:=bd h
     exact rk hC [.z (.int 0),oA (aP rI hx12),oQ (bT (r:=rI) 1 (fun _=>rfl) x2),oQ (bT (r:=rI) 1 (fun _=>rfl) [x11.1])] (fr 32 6) [] [(22,some (ar 3 (g4+1) 1 rI x12)),(21,sc [vS x1,ms 22 (g4+1) 1 rI x12])] [] ⟨(x1,x12),(g4+1),h,lS⟩
   ·rintro⟨x13,x14⟩ g15 h
    subst hj8
    exact rk hC [] [4,16,17] [(4,vI (wr (x3+1)))] [] [] ⟨(x13,x14,wr (x3+1)),g15,h,lS⟩
  ·obtain rfl:=so h
   exact cT (rq hC [.z (.at 2),.z (.fz 22 [] [21])] [38] [] [(21,sc [vS x1,vM rI x2]),(22,none),(20,sc [vS x1,vM rI x2])] [] (qr eR))
def tQ:List Nd:=[⟨60,2,[(0,1),(1,2)]⟩,⟨56,2,[]⟩,⟨86,9,[]⟩]
theorem aDs(G:GS)(n:Nat)(p:Prog)(line:List UInt8)(g0 g1:Nat){r:Prog}(h:H3 n p line=some r):VQ G 230 [ar 76 g0 2 aJ p.arrays,E.tree tQ 0 g1 (List.map aD p.parts) []] [V.agg [ms 0 g0 2 aJ p.arrays,ms 1 g1 2 aD p.parts],vS line] (V.agg [ms 0 (g0+1) 2 aJ r.arrays,ms 1 (g1+1) 2 aD r.parts]) [ar 76 (g0+1) 2 aJ r.arrays,E.tree tQ 0 (g1+1) (List.map aD r.parts) []]:=by
 unfold H3 at h
 refine vq aO Tryz.func230 rfl fun w X β0 hC hg=> ?_
 refine rq hC [.z (.nat 20),.z (.nat 21)] [0,2,4] [(2,V.ref 20 0),(4,V.ref 21 0)] [(20,sc [ms 0 g0 2 aJ p.arrays,ms 1 g1 2 aD p.parts]),(21,sc [V.t T.nilS,V.t T.nilS])] [(20,true),(21,true)] ?_
 obtain⟨x1,hx1,h⟩:=bd h
 refine rq hC [oC [] [22] (yD G hx1)] [5,11,12] [(5,ms 22 1 1 rS x1)] [(22,some (ar 9 1 1 rS x1))] [(22,true)] (rq hC [oN aD p.parts] [6,13,14,15,16] [(6,vI (wr ((p.parts.length:Int)-1)))] [] [] (qw (lk hC [.fz 22 [5] []] [5] [(5,vM rS x1)] [(22,none)] []) (qs (qb (vj h (fun x_=>aY [(1,vS line),(2,V.ref 20 0),(4,V.ref 21 0),(5,vM rS x1),(6,vI (wr ((p.parts.length:Int)-1))),(17,vB x_)] [(0,ar 76 g0 2 aJ p.arrays),(1,E.tree tQ 0 g1 (List.map aD p.parts) []),(20,E.cells [ms 0 g0 2 aJ p.arrays,ms 1 g1 2 aD p.parts]),(21,E.cells [V.t T.nilS,V.t T.nilS])] [0,1,20,21,22]) (fun j2 h=> ?_) (fun x4 h=> ?_))))))
 ·
  refine aR h (fun c1 h=> ?_) (fun c1 h=> ?_)
  ·exact rk hC ([oN rS x1]++rF 5 c1) (fr 17 10) [(17,vB false)] [] [] (lE h)
  ·obtain⟨x3,hx3,h⟩:=bd h
   exact rk hC ([oN rS x1,oT c1,oT c1,oR rS hx3]++rT 3 c1) (fr 17 10) [(17,vB (decide (x3=[97,114,114,97,121])))] [] [] (lE h)
 ·refine aT h (fun c2 h=> ?_) (fun c2 h=> ?_)
  ·obtain⟨x5,hx5,x6,hx6,h⟩:=cP h
   obtain rfl:=so h
   exact dk hC bC [oV (aBT G hx5),.z (.int 0),oA (aP aJ hx6),oQ (bT (r:=aJ) 2 gQ p.arrays),oQ (bT (r:=aJ) 2 gQ [x5])] (fr 27 7) [] [(0,some (ar 76 (g0+1) 2 aJ x6)),(20,sc [ms 0 (g0+1) 2 aJ x6,ms 1 g1 2 aD p.parts])] [] (rq hC [] [98] [] [(21,sc [ms 0 (g0+1) 2 aJ x6,ms 1 g1 2 aD p.parts])] [] (qw (dV 21 1 1 g1 g1 2 0 (List.map aD p.parts).length (e:=E.tree tQ 0 g1 (List.map aD p.parts) []) (cs:=[ms 0 (g0+1) 2 aJ x6,ms 1 g1 2 aD p.parts]) rfl (by kernel_rfl) (by kernel_rfl) (by kernel_rfl) (by kernel_rfl) rfl rfl hg.2.1) (qr eW)))
  ·refine rq hC [] [34,35,36] [(34,vB (decide (line=[112,97,114,116])))] [] [] (aT h (fun c3 h=> ?_) (fun c3 h=> ?_))
   ·obtain⟨x7,hx7,h⟩:=bd h
    obtain rfl:=so h
    exact rk hC [.z (.at 4),.z (.growa 39 0 24 56),.z (.growa 39 1 25 86),.z (.lt 26 tQ 0),.z (.rows (List.map aD (p.parts++[(⟨[],[]⟩:Part)]))),.z (.at 2),.z (.tre 24 tQ 1),.z (.unf 1 24 (aD (⟨[],[]⟩:Part)) (List.map aD (p.parts++[(⟨[],[]⟩:Part)]))),.z (.tre 25 tQ 2),.z (.unf 1 25 (aD (⟨[],[]⟩:Part)) (List.map aD x7)),.z (.len 41 (List.map aD x7).length),oQ (Eq.refl (ndOf tQ 0)),oQ (aHf aD (⟨[],[]⟩:Part) hx7),oQ (bT (r:=aD) 2 b8 p.parts),oQ (bT (r:=aD) 2 b8 [(⟨[],[]⟩:Part)]),oQ (Eq.refl (List.map aC []).length),oQ (Eq.refl tQ),oQ (Z8 aD p.parts (⟨[],[]⟩:Part)),oQ (aFW aD p.parts (ph:=(⟨[],[]⟩:Part)) (y:=(⟨[],[]⟩:Part)) rfl),oQ (Eq.refl (List.map aG []).length),oQ (Eq.refl tQ),oQ (Z8 aD p.parts (⟨[],[]⟩:Part)),oQ (aBh aD hx7 (ph:=(⟨[],[]⟩:Part)) rfl),oQ (aGf aD (⟨[],[]⟩:Part) hx7)] (fr 37 6) [] [(24,none),(25,none),(26,some (E.tree tQ 0 1 (List.map aD [(⟨[],[]⟩:Part)]) [(0,0,ms 24 1 2 aC []),(0,1,ms 25 1 9 aG [])])),(1,some (E.tree tQ 0 (g1+1) (List.map aD x7) [])),(20,sc [ms 0 g0 2 aJ p.arrays,ms 1 (g1+1) 2 aD x7])] [(24,true),(25,true),(26,true)] (rq hC [] [98] [] [(21,sc [ms 0 g0 2 aJ p.arrays,ms 1 (g1+1) 2 aD x7])] [] (qw (dV 21 0 0 g0 g0 2 0 (List.map aJ p.arrays).length (e:= .arr 76 g0 2 (List.map aJ p.arrays)) (cs:=[ms 0 g0 2 aJ p.arrays,ms 1 (g1+1) 2 aD x7]) rfl (by kernel_rfl) (by kernel_rfl) (by kernel_rfl) (by kernel_rfl) rfl rfl hg.1) (qr eW)))
   ·refine vj h (fun x_=>aY [(1,vS line),(2,V.ref 20 0),(4,V.ref 21 0),(6,vI (wr ((p.parts.length:Int)-1))),(43,vB x_)] [(0,ar 76 g0 2 aJ p.arrays),(1,E.tree tQ 0 g1 (List.map aD p.parts) []),(20,E.cells [ms 0 g0 2 aJ p.arrays,ms 1 g1 2 aD p.parts]),(21,E.cells [V.t T.nilS,V.t T.nilS])] [0,1,20,21,22]) (fun j6 h=> ?_) (fun x8 h=> ?_)
    ·
     refine aR h (fun c4 h=> ?_) (fun c4 h=> ?_)
     ·exact rk hC (rF 4 c4++sF 5) (fr 43 14) [(43,vB false)] [] [] (lE h)
     ·refine aR h (fun c5 h=> ?_) (fun c5 h=> ?_)
      ·exact rk hC ([oT c4,oT c4,oN rS x1,oT c4,oT c4]++rF 5 c5) (fr 43 14) [(43,vB false)] [] [] (lE h)
      ·obtain⟨x7,hx7,h⟩:=bd h
       exact rk hC ([oT c4,oT c4,oN rS x1,oT c4,oT c4,oT c5,oT c5,oR rS hx7]++rT 3 c5) (fr 43 14) [(43,vB (decide (x7=[102,111,114])))] [] [] (lE h)
    ·refine aT h (fun c6 h=> ?_) (fun c6 h=> ?_)
     ·obtain⟨x9,hx9,h⟩:=bd h
      refine rq hC [.z (.foc 1 24 (0+Int.toNat (wr ((p.parts.length:Int)-1))) 0 (aD x9)),.z (.foc 1 25 (0+Int.toNat (wr ((p.parts.length:Int)-1))) 1 (aD x9)),oX aD hx9,.z (.nat 23),oQ (wE aD hx9),oQ (lM aD hx9),oQ (wE aD hx9)] [7,57,58,59,60,61] [(7,V.ref 23 0)] [(1,some (E.tree tQ 0 g1 (List.map aD p.parts) [((0+Int.toNat (wr ((p.parts.length:Int)-1))),1,ms 25 1 9 aG x9.body),((0+Int.toNat (wr ((p.parts.length:Int)-1))),0,ms 24 1 2 aC x9.nest)])),(24,some (E.tree tQ 1 1 (List.map aC x9.nest) [])),(25,some (E.tree tQ 2 1 (List.map aG x9.body) [])),(23,sc [ms 24 1 2 aC x9.nest,ms 25 1 9 aG x9.body])] [(24,true),(25,true),(23,true)] (qw (lk hC [.shd 24] [] [] [(24,some (ar 56 1 2 aC x9.nest))] []) (qs ?_))
      obtain⟨x10,hx10,x13,hx13,x14,hx14,h⟩:=kG h
      obtain rfl:=so h
      exact dk hC bC [oV (aDA G hx10),.z (.int 0),oA (aP aC hx13),oQ (bT (r:=aC) 2 b9 x9.nest),oQ (bT (r:=aC) 2 b9 [x10])] (fr 62 7) [] [(24,some (ar 56 2 2 aC x13)),(23,sc [ms 24 2 2 aC x13,ms 25 1 9 aG x9.body])] [] (rk hC [oQ (lM aD hx9),oX aD hx9,.z (.unf 1 25 (aD x9) (List.map aD p.parts)),.z (.tre 24 tQ 1),.z (.unf 1 24 (aD x9) (List.map aD x14)),.z (.lenc 20 1 (List.map aD x14).length),oQ (Eq.refl (List.map aG x9.body).length),oQ (Eq.refl tQ),oQ (wE aD hx9),oQ (aBi aD hx9 rfl),oQ (Eq.refl (List.map aC x13).length),oQ (Eq.refl tQ),oQ (wE aD hx9),oQ (R4 aD hx14 rfl),oQ (kH aD hx14)] (fr 69 5) [] [(24,none),(25,none),(1,some (E.tree tQ 0 g1 (List.map aD x14) [])),(20,sc [ms 0 g0 2 aJ p.arrays,ms 1 g1 2 aD x14])] [] (rq hC [] [98] [] [(21,sc [ms 0 g0 2 aJ p.arrays,ms 1 g1 2 aD x14])] [] (qw (dV 21 0 0 g0 g0 2 0 (List.map aJ p.arrays).length (e:= .arr 76 g0 2 (List.map aJ p.arrays)) (cs:=[ms 0 g0 2 aJ p.arrays,ms 1 g1 2 aD x14]) rfl (by kernel_rfl) (by kernel_rfl) (by kernel_rfl) (by kernel_rfl) rfl rfl hg.1) (qw (dV 21 1 1 g1 g1 2 0 (List.map aD x14).length (e:=E.tree tQ 0 g1 (List.map aD x14) []) (cs:=[ms 0 (g0+1) 2 aJ p.arrays,ms 1 g1 2 aD x14]) rfl (by kernel_rfl) (by kernel_rfl) (by kernel_rfl) (by kernel_rfl) rfl rfl hg.2.1) (qr eW)))))
     ·refine rq hC [] [74,75,76] [(74,vB (decide ((0:Int)≤wr ((p.parts.length:Int)-1))))] [] [] (aT h (fun c7 h=> ?_) (fun c7 h=> ?_))
      ·obtain⟨x11,hx11,h⟩:=bd h
       refine rq hC [.z (.foc 1 25 (0+Int.toNat (wr ((p.parts.length:Int)-1))) 1 (aD x11)),.z (.foc 1 26 (0+Int.toNat (wr ((p.parts.length:Int)-1))) 0 (aD x11)),oX aD hx11,.z (.nat 23),oQ (wE aD hx11),oQ (lM aD hx11),oQ (wE aD hx11)] [8,77,78,79,80,81] [(8,V.ref 23 0)] [(1,some (E.tree tQ 0 g1 (List.map aD p.parts) [((0+Int.toNat (wr ((p.parts.length:Int)-1))),0,ms 26 1 2 aC x11.nest),((0+Int.toNat (wr ((p.parts.length:Int)-1))),1,ms 25 1 9 aG x11.body)])),(25,some (E.tree tQ 2 1 (List.map aG x11.body) [])),(26,some (E.tree tQ 1 1 (List.map aC x11.nest) [])),(23,sc [ms 26 1 2 aC x11.nest,ms 25 1 9 aG x11.body])] [(25,true),(26,true),(23,true)] (qw (lk hC [.shd 25] [] [] [(25,some (ar 86 1 9 aG x11.body))] []) ?_)
       obtain⟨x12,hx12,h⟩:=bd h
       refine rq hC [oV (vK G hx12),.z (.nat 24)] [9,10,82,83,84,85,86] [(9,V.ref 24 0)] [(24,some (E.cells (cO x12.1)))] [(24,true)] ?_
       obtain⟨x15,hx15,x16,hx16,h⟩:=cP h
       obtain rfl:=so h
       exact rq hC [.z (.int 0),oA (aP aG hx15),oQ (bT (r:=aG) 9 dW x11.body),oQ (bT (r:=aG) 9 dW [x12.1])] (fr 87 6) [] [(25,some (ar 86 2 9 aG x15)),(23,sc [ms 26 1 2 aC x11.nest,ms 25 2 9 aG x15])] [] (rk hC [oQ (lM aD hx11),oX aD hx11,.z (.unf 1 26 (aD x11) (List.map aD p.parts)),.z (.tre 25 tQ 2),.z (.unf 1 25 (aD x11) (List.map aD x16)),.z (.lenc 20 1 (List.map aD x16).length),oQ (Eq.refl (List.map aC x11.nest).length),oQ (Eq.refl tQ),oQ (wE aD hx11),oQ (aBi aD hx11 rfl),oQ (Eq.refl (List.map aG x15).length),oQ (Eq.refl tQ),oQ (wE aD hx11),oQ (R4 aD hx16 rfl),oQ (kH aD hx16)] (fr 93 5) [] [(25,none),(26,none),(1,some (E.tree tQ 0 g1 (List.map aD x16) [])),(20,sc [ms 0 g0 2 aJ p.arrays,ms 1 g1 2 aD x16])] [] (rq hC [] [98] [] [(21,sc [ms 0 g0 2 aJ p.arrays,ms 1 g1 2 aD x16])] [] (qw (dV 21 0 0 g0 g0 2 0 (List.map aJ p.arrays).length (e:= .arr 76 g0 2 (List.map aJ p.arrays)) (cs:=[ms 0 g0 2 aJ p.arrays,ms 1 g1 2 aD x16]) rfl (by kernel_rfl) (by kernel_rfl) (by kernel_rfl) (by kernel_rfl) rfl rfl hg.1) (qw (dV 21 1 1 g1 g1 2 0 (List.map aD x16).length (e:=E.tree tQ 0 g1 (List.map aD x16) []) (cs:=[ms 0 (g0+1) 2 aJ p.arrays,ms 1 g1 2 aD x16]) rfl (by kernel_rfl) (by kernel_rfl) (by kernel_rfl) (by kernel_rfl) rfl rfl hg.2.1) (qr eW)))))
      ·obtain rfl:=so h
       exact qk (rq hC [] [98] [] [(21,sc [ms 0 g0 2 aJ p.arrays,ms 1 g1 2 aD p.parts])] [] (qw (dV 21 0 0 g0 g0 2 0 (List.map aJ p.arrays).length (e:= .arr 76 g0 2 (List.map aJ p.arrays)) (cs:=[ms 0 g0 2 aJ p.arrays,ms 1 g1 2 aD p.parts]) rfl (by kernel_rfl) (by kernel_rfl) (by kernel_rfl) (by kernel_rfl) rfl rfl hg.1) (qw (dV 21 1 1 g1 g1 2 0 (List.map aD p.parts).length (e:=E.tree tQ 0 g1 (List.map aD p.parts) []) (cs:=[ms 0 (g0+1) 2 aJ p.arrays,ms 1 g1 2 aD p.parts]) rfl (by kernel_rfl) (by kernel_rfl) (by kernel_rfl) (by kernel_rfl) rfl rfl hg.2.1) (qr eW))))
theorem aDx{nest}{r}(h:H4 n nest=some r):PQ G 267 [vM aC nest] (vS r):=by
 unfold H4 at h
 refine pq aO Tryz.func267 rfl fun w X hC=> ?_
 refine rq hC [] [2] [] [] [] (rq hC [] [3] [(3,vS [])] [] [] (qs (rq hC [] [4] [(4,vI 0)] [] [] (qb (jP h (fun x_=>aY [(0,vM aC nest),(3,vS x_.1),(4,vI x_.2)] [] []) lS ?_)))))
 rintro again3 ⟨x1,x2⟩ h
 refine qs (rq hC [oN aC nest] (fr 5 4) [(8,vB (decide (x2<(nest.length:Int))))] [] [] (aT h (fun c1 h=> ?_) (fun c1 h=> ?_)))
 ·refine qk (qs (qb ?_))
  obtain⟨x4,hx4,x5,hx5,x6,hx6,h⟩:=kG h
  obtain⟨x7,hx7,x8,hx8,x9,hx9,h⟩:=kG h
  obtain⟨x10,hx10,x11,hx11,h⟩:=cP h
  exact dk hC bC [oS hx4,oR aC hx5,oV (o7 G hx6),oS hx7,oS hx8,oR aC hx5,oV (o7 G hx9),oS hx10,oS hx11] [3,11,12,13,14,15,16,17,18,19,20,21,22,23,24,25,26,27,28] [(3,vS x11)] [] [] (rk hC [] [4,9,10] [(4,vI (wr (x2+1)))] [] [] (lE h))
 ·obtain rfl:=so h
  exact cT (rq hC [] [2,29] [(2,vS x1)] [] [] (qr eR))
theorem yF{p}{r}(h:mU n p=some r):PQ G 231 [V.agg (bH p)] (vS r):=by
 unfold mU at h
 refine pq aO Tryz.func231 rfl fun w X hC=> ?_
 refine rq hC [.z (.b (true))] [1,2] [(1,V.tp (bL p))] [] [] (qs ?_)
 obtain⟨x1,hx1,h⟩:=bd h
 refine rq hC [oV (cY G hx1)] [9,10,11] [(11,vB (!x1))] [] [] (aT h (fun c1 h=> ?_) (fun c1 h=> ?_))
 ·obtain rfl:=so h
  exact rq hC [] [2] [(2,vS [])] [] [] (qr eR)
 ·refine qk (rq hC [] [3] [(3,vS [112,114,111,103,114,97,109,10])] [] [] (qs (rq hC [] [4] [(4,vI 0)] [] [] (qb (jP h (fun x_=>aY [(1,V.tp (bL p)),(3,vS x_.1),(4,vI x_.2)] [] []) lS ?_)))))
  rintro again4 ⟨x2,x3⟩ h
  refine qs (rq hC [oN aJ p.arrays] (fr 12 5) [(16,vB (decide (x3<(p.arrays.length:Int))))] [] [] (aT h (fun c2 h=> ?_) (fun c2 h=> ?_)))
  ·refine qk (qs (qb ?_))
   obtain⟨x5,hx5,x6,hx6,x7,hx7,h⟩:=kG h
   refine rq hC [oS hx5,oR aJ hx6,oS hx7] [3,19,20,21,22,23,24,25,26,27] [(3,vS x7)] [] [] (qs (rq hC [] [5] [(5,vI 0)] [] [] (qb (jP h (fun x_=>aY [(1,V.tp (bL p)),(3,vS x_.1),(4,vI x3),(5,vI x_.2)] [] []) lS ?_))))
   rintro again10 ⟨x8,x9⟩ h
   refine qs (rq hC [oR aJ hx6,oN rI x6.dims] (fr 28 9) [(36,vB (decide (x9<(x6.dims.length:Int))))] [] [] (aT h (fun c3 h=> ?_) (fun c3 h=> ?_)))
   ·refine qk (qs (qb ?_))
    obtain⟨x11,hx11,x12,hx12,x13,hx13,h⟩:=kG h
    obtain⟨x14,hx14,h⟩:=bd h
    exact rk hC [oS hx11,oR aJ hx6,oR rI hx12,oV (sB G n x12 hx13),oS hx14] [3,39,40,41,42,43,44,45,46,47,48,49,50,51] [(3,vS x14)] [] [] (rk hC [] [5,37,38] [(5,vI (wr (x9+1)))] [] [] (lE h))
   ·refine cT ?_
    obtain⟨x15,hx15,h⟩:=bd h
    exact rk hC [oS hx15] [3,52,53] [(3,vS x15)] [] [] (rk hC [] [4,17,18] [(4,vI (wr (x3+1)))] [] [] (lE h))
  ·refine cT (qs (rq hC [] [6] [(6,vI 0)] [] [] (qb (jP h (fun x_=>aY [(1,V.tp (bL p)),(3,vS x_.1),(6,vI x_.2)] [] []) lS ?_))))
   rintro again18 ⟨x16,x17⟩ h
   refine qs (rq hC [oN aD p.parts] (fr 54 5) [(58,vB (decide (x17<(p.parts.length:Int))))] [] [] (aT h (fun c4 h=> ?_) (fun c4 h=> ?_)))
   ·refine qk (qs (qb ?_))
    obtain⟨x19,hx19,x20,hx20,x21,hx21,h⟩:=kG h
    obtain⟨x22,hx22,h⟩:=bd h
    refine rq hC [oS hx19,oR aD hx20,oV (aDx G hx21),oS hx22] [3,61,62,63,64,65,66,67,68,69,70] [(3,vS x22)] [] [] (rq hC [] [7] [(7,vI 0)] [] [] (qb (jP h (fun x_=>aY [(1,V.tp (bL p)),(3,vS x_.1),(6,vI x17),(7,vI x_.2)] [] []) lS ?_)))
    rintro again25 ⟨x23,x24⟩ h
    refine qs (rq hC [oR aD hx20,oN aG x20.body] (fr 71 9) [(79,vB (decide (x24<(x20.body.length:Int))))] [] [] (aT h (fun c5 h=> ?_) (fun c5 h=> ?_)))
    ·refine qk (qs (qb ?_))
     obtain⟨x26,hx26,h⟩:=bd h
     refine rq hC [oR aD hx20,oR aG hx26,.z (.nat 20)] [8,82,83,84,85,86,87,88,89,90] [(8,V.ref 20 0)] [(20,some (E.cells (cO x26)))] [(20,true)] ?_
     obtain⟨x27,hx27,x28,hx28,x29,hx29,h⟩:=kG h
     obtain⟨x30,hx30,x31,hx31,x32,hx32,h⟩:=kG h
     exact dk hC bC [oV (l9 G hx27),oS hx28,oS hx29,oV (O3 G n x26.value hx30),oS hx31,oS hx32] [3,91,92,93,94,95,96,97,98,99,100,101] [(3,vS x32)] [] [] (rk hC [] [7,80,81] [(7,vI (wr (x24+1)))] [] [] (lE h))
    ·exact cT (rk hC [] [6,59,60] [(6,vI (wr (x17+1)))] [] [] (lE h))
   ·obtain rfl:=so h
    exact cT (rq hC [] [2,102] [(2,vS x16)] [] [] (qr eR))
theorem zW{text}{r}(h:eM n text=some r):PQ G 182 [vS text] (V.tup [V.agg (bH r.1),vB r.2]):=by
 unfold eM at h
 refine pq aO Tryz.func182 rfl fun w X hC=> ?_
 refine rq hC [.z (.nat 20)] [2,3] [(2,V.ref 20 0)] [(20,sc [V.t T.nilS,V.t T.nilS])] [(20,true)] ?_
 obtain⟨x1,hx1,h⟩:=bd h
 refine rq hC [oC [] [21] (wT G hx1)] [4,7,8] [(4,ms 21 1 1 rS x1)] [(21,some (ar 9 1 1 rS x1))] [(21,true)] (rq hC [.z (.nat 22)] [5,9] [(5,V.ref 22 0)] [(22,sc [V.t T.nilS,V.t T.nilS])] [(22,true)] (qs (rq hC [oN rS x1] [10,11,12] [(12,vB (decide ((42:Int)<(x1.length:Int))))] [] [] (aT h (fun c1 h=> ?_) (fun c1 h=> ?_)))))
 ·obtain rfl:=so h
  exact rq hC [] [3,13] [(3,vB false)] [(20,sc [V.t T.nilS,V.t T.nilS])] [] (qr eR)
 ·refine qk (qs (rq hC [] [6] [(6,vI 1)] [] [] (qb (qw (lk hC [.growc 22 0 23 76,.growc 22 1 24 60,.tre 24 tQ 0] [] [] [(23,some (ar 76 1 2 aJ [])),(24,some (E.tree tQ 0 1 (List.map aD []) [])),(22,sc [ms 23 1 2 aJ [],ms 24 1 2 aD []])] [(23,true),(24,true)]) (bD (γ:=Nat×Nat) h (fun x_ g_=>aY [(0,vS text),(2,V.ref 20 0),(4,ms 21 1 1 rS x1),(5,V.ref 22 0),(6,vI x_.2.2)] [(20,E.cells [V.t T.nilS,V.t T.nilS]),(21,ar 9 1 1 rS x1),(22,E.cells [ms 23 g_.1 2 aJ x_.1,ms 24 g_.2 2 aD x_.2.1]),(23,ar 76 g_.1 2 aJ x_.1),(24,E.tree tQ 0 g_.2 (List.map aD x_.2.1) [])] [20,21,22,23,24]) (1,1) (lS) ?_)))))
  rintro again5 ⟨x2,x3,x4⟩ ⟨g5,g6⟩ h
  refine qs (rq hC [oN rS x1] (fr 14 5) [(18,vB (decide (wr (x4+1)<(x1.length:Int))))] [] [] (aT h (fun c2 h=> ?_) (fun c2 h=> ?_)))
  ·refine qk (qs (qb ?_))
   obtain⟨x6,hx6,x7,hx7,h⟩:=cP h
   exact dk hC bC [oQ (lM rS hx6),oX rS hx6,oC [23,24] [] (aDs G n (⟨x2,x3⟩:Prog) x6 g5 g6 hx7)] (fr 21 6) [] [(23,some (ar 76 (g5+1) 2 aJ x7.arrays)),(24,some (E.tree tQ 0 (g6+1) (List.map aD x7.parts) [])),(22,sc [ms 23 (g5+1) 2 aJ x7.arrays,ms 24 (g6+1) 2 aD x7.parts])] [(23,true),(24,true)] (rk hC [] [6,19,20] [(6,vI (wr (x4+1)))] [] [] ⟨(x7.arrays,x7.parts,wr (x4+1)),(g5+1,g6+1),h,lS⟩)
  ·refine cT (qs (vj h (fun x_=>aY [(2,V.ref 20 0),(5,V.ref 22 0),(34,vB x_)] [(20,E.cells [V.t T.nilS,V.t T.nilS]),(21,ar 9 1 1 rS x1),(22,E.cells [ms 23 g5 2 aJ x2,ms 24 g6 2 aD x3]),(23,ar 76 g5 2 aJ x2),(24,E.tree tQ 0 g6 (List.map aD x3) [])] [20,21,22,23,24]) (fun j8 h=> ?_) (fun x10 h=> ?_)))
   ·
    refine aR h (fun c3 h=> ?_) (fun c3 h=> ?_)
    ·obtain⟨x9,hx9,h⟩:=bd h
     exact rk hC ([oF c3,oF c3,.z (.b true),.z (.nat 23),.z (.nat 24),oV (yF G hx9)]++rF 3 c3) (fr 27 8) [(34,vB (!decide (x9=text)))] [] [] (lE h)
    ·exact rk hC (rT 5 c3) (fr 27 8) [(34,vB true)] [] [] (lE h)
   ·refine aT h (fun c4 h=> ?_) (fun c4 h=> ?_)
    ·obtain rfl:=so h
     exact rq hC [] [3,35] [(3,vB false)] [(20,sc [V.t T.nilS,V.t T.nilS])] [] (qr eR)
    ·obtain rfl:=so h
     exact qk (qs (qw (lk hC [.fz 23 [] [22],.shd 24,.fz 24 [] [22]] [] [] [(22,sc [vM aJ x2,vM aD x3]),(23,none),(24,none)] []) (rk hC [] [3,36] [(3,vB true)] [(20,sc [vM aJ x2,vM aD x3])] [] (qr eR))))
theorem rW(G:GS)(n:Nat){r:(List Arr)}(h:qC n=some r):PQ G 232 [] (vM aJ r):=by
 unfold qC at h
 refine pq aO Tryz.func232 rfl fun w X hC=> ?_
 obtain rfl:=so h
 exact rq hC [] [0] [] [] [] (rq hC [.z (.int 0),.z (.int 0),.z (.int 0),.z (.int 0)] (fr 0 8) [(0,vM aJ [(⟨[65],[6]⟩:Arr),(⟨[66],[4,5]⟩:Arr),(⟨[67],[3]⟩:Arr)])] [] [] (qr eR))
theorem aDz{r_a0}{depth}{r}(h:tK n r_a0 depth=some r):VQ G 295 [eL r_a0] [V.ref 0 0,vI depth] (V.agg (jD r.1)) [eL r.2]:=by
 unfold tK at h
 refine vq aO Tryz.func295 rfl fun w X β0 hC hg=> ?_
 refine rq hC [.z (.nat 20)] [4] [(4,V.ref 20 0)] [(20,sc [V.t T.nilS,V.t T.nilS])] [(20,true)] ?_
 obtain⟨x1,hx1,x2,hx2,h⟩:=cP h
 refine rq hC [.z (.int 0),oC [0] [] (bA G hx1),oC [] [21] (dF G hx2),.z (.nat 22)] [5,9,10,11,12] [(5,V.ref 22 0)] [(0,sR x1.2),(21,some (ar 3 1 1 rI x2.coefs)),(22,sc [ms 21 1 1 rI x2.coefs,vI x2.const])] [(0,true),(21,true),(22,true)] ?_
 obtain⟨x3,hx3,x4,hx4,h⟩:=cP h
 refine rq hC [.z (.int 0),oC [0] [] (bA G hx3),oC [] [23] (dF G hx4),.z (.nat 24)] [6,13,14,15,16] [(6,V.ref 24 0)] [(0,sR x3.2),(23,some (ar 3 1 1 rI x4.coefs)),(24,sc [ms 23 1 1 rI x4.coefs,vI x4.const])] [(0,true),(23,true),(24,true)] (vj h (fun x_=>aY [(0,V.ref 0 0),(4,V.ref 20 0),(5,V.ref 22 0),(6,V.ref 24 0)] [(0,E.cells [vM rY x_.1,vI x_.2.1]),(20,E.cells [V.t T.nilS,V.t T.nilS]),(22,E.cells [vM rI x_.2.2.1,vI x_.2.2.2.1]),(24,E.cells [vM rI x_.2.2.2.2.1,vI x_.2.2.2.2.2])] [0,20,21,22,23,24]) (fun j5 h=> ?_) ?_)
 ·
  refine vj h (fun x_=>aY [(0,V.ref 0 0),(1,vI depth),(4,V.ref 20 0),(5,V.ref 22 0),(6,V.ref 24 0),(23,vB x_.2.2)] [(0,E.cells [vM rY x_.1,vI x_.2.1]),(20,E.cells [V.t T.nilS,V.t T.nilS]),(21,ar 3 1 1 rI x2.coefs),(22,E.cells [ms 21 1 1 rI x2.coefs,vI x2.const]),(23,ar 3 1 1 rI x4.coefs),(24,E.cells [ms 23 1 1 rI x4.coefs,vI x4.const])] [0,20,21,22,23,24]) (fun j6 h=> ?_) ?_
  ·
   refine aR h (fun c1 h=> ?_) (fun c1 h=> ?_)
   ·exact rk hC (rF 4 c1) (fr 17 7) [(23,vB false)] [] [] (lE h)
   ·obtain⟨x7,hx7,h⟩:=bd h
    exact rk hC [oT c1,oT c1,oC [0] [] (bQ G hx7),oT c1,oT c1] (fr 17 7) [(23,vB (decide (x7.1=0)))] [(0,sR x7.2)] [(0,true)] (lE h)
  ·rintro⟨x8,x9,x10⟩ h
   refine aT h (fun c2 h=> ?_) (fun c2 h=> ?_)
   ·obtain⟨x11,hx11,h⟩:=bd h
    refine rq hC [oC [0] [] (bQ G hx11)] [7,24,25,26] [(7,vI x11.1)] [(0,sR x11.2)] [(0,true)] ?_
    obtain⟨x12,hx12,h⟩:=bd h
    refine rq hC [oC [0] [] (bQ G hx12)] [27,28,29] [(29,vB (decide (x12.1=0)))] [(0,sR x12.2)] [(0,true)] (aT h (fun c3 h=> ?_) (fun c3 h=> ?_))
    ·obtain⟨x13,hx13,h⟩:=bd h
     exact rk hC [oC [] [25] (mA G hx13)] [30,31] [] [(25,some (ar 3 1 1 rI x13.coefs)),(22,sc [ms 25 1 1 rI x13.coefs,vI x13.const])] [(25,true)] ⟨(x12.2.b,x12.2.p,x13.coefs,x13.const,x4.coefs,x4.const),h,((lk hC [.fz 23 [] [24],.fz 25 [] [22]] [] [] [(24,some (E.cells (aK x4))),(23,none),(22,some (E.cells (aK x13))),(25,none)] []).trans (lS))⟩
    ·obtain⟨x14,hx14,x15,hx15,x16,hx16,h⟩:=kG h
     exact rk hC [oC [] [25] (mA G hx14),oC [] [26] (dF G hx15),.z (.at 2),.z (.fz 25 [33] []),.z (.at 2),.z (.fz 26 [34] []),oC [] [27] (fP G hx16)] (fr 32 4) [] [(25,none),(26,none),(27,some (ar 3 1 1 rI x16.coefs)),(24,sc [ms 27 1 1 rI x16.coefs,vI x16.const])] [(25,true),(26,true),(27,true)] ⟨(x12.2.b,x12.2.p,x2.coefs,x2.const,x16.coefs,x16.const),h,((lk hC [.fz 21 [] [22],.fz 27 [] [24]] [] [] [(22,some (E.cells (aK x2))),(21,none),(24,some (E.cells (aK x16))),(27,none)] []).trans (lS))⟩
   ·exact qk ⟨(x8,x9,x2.coefs,x2.const,x4.coefs,x4.const),h,((lk hC [.fz 21 [] [22],.fz 23 [] [24]] [] [] [(22,some (E.cells (aK x2))),(21,none),(24,some (E.cells (aK x4))),(23,none)] []).trans (lS))⟩
 ·rintro⟨x17,x18,x19,x20,x21,x22⟩ h
  refine rq hC [.z (.int 1),.z (.nat 25),.z (.int 1),.z (.nat 26),.z (.nat 27)] [8,36,37,38,39,40] [(8,V.ref 27 0)] [(25,some (ar 63 1 2 aA [(⟨x19,x20⟩:Affine)])),(26,some (ar 63 1 2 aA [(⟨x21,x22⟩:Affine)])),(27,sc [ms 25 1 2 aA [(⟨x19,x20⟩:Affine)],ms 26 1 2 aA [(⟨x21,x22⟩:Affine)]])] [(25,true),(26,true),(27,true)] ?_
  obtain⟨j23,hj23,h⟩:=R7 h
  refine n4 (γ:=Nat×Nat) (j:=j23) (r:=r) (fun x_ g_=>aY [(4,V.ref 20 0),(8,V.ref 27 0)] [(0,E.cells [vM rY x_.1,vI x_.2.1]),(20,E.cells [V.t T.nilS,V.t T.nilS]),(22,E.cells [vM rI x19,vI x20]),(24,E.cells [vM rI x21,vI x22]),(25,ar 63 g_.1 2 aA x_.2.2.1),(26,ar 63 g_.2 2 aA x_.2.2.2),(27,E.cells [ms 25 g_.1 2 aA x_.2.2.1,ms 26 g_.2 2 aA x_.2.2.2])] [0,20,21,22,23,24,25,26,27]) ?_ ?_
  ·
   obtain⟨x24,hx24,h⟩:=bd h
   refine rq hC [oC [0] [] (bQ G hx24)] [41,42] [(42,vI x24.1)] [(0,sR x24.2)] [(0,true)] (qb (rq hC [] [43,44] [(43,vB (decide (x24.1=0)))] [] [] (aT h (fun c4 h=> ?_) (fun c4 h=> ?_))))
   ·obtain⟨x25,hx25,x26,hx26,x27,hx27,h⟩:=kG h
    exact dk hC bC [.z (.int 0),oC [0] [] (bA G hx25),oC [] [28] (dF G hx26),.z (.at 4),.z (.fz 28 [50] []),.z (.int 0),oA (aP aA hx27),oQ (bT (r:=aA) 2 aU [(⟨x21,x22⟩:Affine)]),oQ (bT (r:=aA) 2 aU [x26])] (fr 45 9) [] [(0,sR x25.2),(28,none),(26,some (ar 63 2 2 aA x27)),(27,sc [ms 25 1 2 aA [(⟨x19,x20⟩:Affine)],ms 26 2 2 aA x27])] [(0,true),(28,true)] ⟨(x25.2.b,x25.2.p,[(⟨x19,x20⟩:Affine)],x27),(1,2),h,lS⟩
   ·refine rq hC [] [54,55] [(54,vB (decide (x24.1=1)))] [] [] (aT h (fun c5 h=> ?_) (fun c5 h=> ?_))
    ·obtain⟨x28,hx28,x29,hx29,x30,hx30,h⟩:=kG h
     exact dk hC bC [.z (.int 0),oC [0] [] (bA G hx28),oC [] [28] (dF G hx29),.z (.at 4),.z (.fz 28 [61] []),.z (.int 0),oA (aP aA hx30),oQ (bT (r:=aA) 2 aU [(⟨x19,x20⟩:Affine)]),oQ (bT (r:=aA) 2 aU [x29])] (fr 56 9) [] [(0,sR x28.2),(28,none),(25,some (ar 63 2 2 aA x30)),(27,sc [ms 25 2 2 aA x30,ms 26 1 2 aA [(⟨x21,x22⟩:Affine)]])] [(0,true),(28,true)] ⟨(x28.2.b,x28.2.p,x30,[(⟨x21,x22⟩:Affine)]),(2,1),h,lS⟩
    ·exact qk ⟨(x24.2.b,x24.2.p,[(⟨x19,x20⟩:Affine)],[(⟨x21,x22⟩:Affine)]),(1,1),h,lS⟩
  ·rintro⟨x31,x32,x33,x34⟩ ⟨g35,g36⟩ h
   subst hj23
   obtain rfl:=so h
   exact rq hC [.z (.at 2),.z (.fz 25 [] [27]),.z (.at 2),.z (.fz 26 [] [27])] [65] [] [(27,sc [vM aA x33,vM aA x34]),(25,none),(26,none),(20,sc [vM aA x33,vM aA x34])] [] (qr eW)
theorem aDy{r_a0}{r}(h:tJ n r_a0=some r):VQ G 270 [eL r_a0] [V.ref 0 0] (ms 1 1 2 aC r.1) [eL r.2,ar 56 1 2 aC r.1]:=by
 unfold tJ at h
 refine vq aO Tryz.func270 rfl fun w X β0 hC hg=> ?_
 refine rq hC [] [2] [] [] [] (rq hC [.z (.nat 20)] [3,5] [(3,ms 20 1 2 aC [])] [(20,some (ar 56 1 2 aC []))] [(20,true)] (qs ?_))
 obtain⟨x1,hx1,h⟩:=bd h
 refine rq hC [.z (.int 0),oC [0] [] (bA G hx1)] [4,6,7,8] [(4,vI x1.1)] [(0,sR x1.2)] [(0,true)] (qb (bD (γ:=Nat) h (fun x_ g_=>aY [(0,V.ref 0 0),(3,ms 20 g_ 2 aC x_.2.2.1),(4,vI x_.2.2.2)] [(0,E.cells [vM rY x_.1,vI x_.2.1]),(20,ar 56 g_ 2 aC x_.2.2.1)] [0,20]) 1 (lS) ?_))
 rintro again7 ⟨x2,x3,x4,x5⟩ g6 h
 refine qs (rq hC [] [9,10] [(10,vB (decide ((0:Int)<x5)))] [] [] (aT h (fun c1 h=> ?_) (fun c1 h=> ?_)))
 ·refine qk (qs (qb ?_))
  obtain⟨x8,hx8,x9,hx9,h⟩:=cP h
  exact rk hC [oN aC x4,oC [0] [] (aDz G hx8),.z (.int 0),oA (aP aC hx9),oQ (bT (r:=aC) 2 b9 x4),oQ (bT (r:=aC) 2 b9 [x8.1])] [3,13,14,15,16,17,18,19] [(3,ms 20 (g6+1) 2 aC x9)] [(0,sR x8.2),(20,some (ar 56 (g6+1) 2 aC x9))] [(0,true)] (rk hC [] [4,11,12] [(4,vI (wr (x5-1)))] [] [] ⟨(x8.2.b,x8.2.p,x9,wr (x5-1)),(g6+1),h,lS⟩)
 ·obtain rfl:=so h
  exact cT (rq hC [] [2,20] [(2,ms 20 g6 2 aC x4)] [] [] (qw (lk hC [.ren 2 20 1] [2] [(2,ms 1 1 2 aC x4)] [(1,some (ar 56 1 2 aC x4)),(20,none)] [(1,true)]) (qr eW)))
theorem O5{r_a0}{depth}{r}(h:oH n r_a0 depth=some r):VQ G 296 [eL r_a0] [V.ref 0 0,vI depth] (V.agg (cB r.1)) [eL r.2]:=by
 unfold oH at h
 refine vq aO Tryz.func296 rfl fun w X β0 hC hg=> ?_
 refine rq hC [.z (.nat 20)] [4] [(4,V.ref 20 0)] [(20,sc [vS [],V.t T.nilS])] [(20,true)] ?_
 obtain⟨x1,hx1,h⟩:=bd h
 refine rq hC [.z (.int 0),oC [0] [] (nG G hx1),.z (.nat 21)] [5,10,11,12,13] [(5,V.ref 21 0)] [(0,sR x1.2),(21,sc [vS x1.1,V.t T.nilS])] [(0,true),(21,true)] (rq hC [] [6] [(6,vI 1)] [] [] (vj h (fun x_=>aY [(0,V.ref 0 0),(1,vI depth),(4,V.ref 20 0),(5,V.ref 21 0),(6,vI x_)] [(0,eL x1.2),(20,E.cells [vS [],V.t T.nilS]),(21,E.cells [vS x1.1,V.t T.nilS])] [0,20,21]) (fun j2 h=> ?_) (fun x3 h=> ?_)))
 ·
  refine rq hC [] [14,15,16] [(16,vB (decide (x1.1=[66])))] [] [] (aT h (fun c1 h=> ?_) (fun c1 h=> ?_))
  ·exact rk hC [] [6] [(6,vI 2)] [] [] (lE h)
  ·exact qk (lE h)
 ·refine qs (rq hC [] [7] [(7,vI 0)] [] [] (qb (qw (lk hC [.growc 21 1 22 63] [] [] [(22,some (ar 63 1 2 aA [])),(21,sc [vS x1.1,ms 22 1 2 aA []])] [(22,true)]) (bD (γ:=Nat) h (fun x_ g_=>aY [(0,V.ref 0 0),(1,vI depth),(4,V.ref 20 0),(5,V.ref 21 0),(6,vI x3),(7,vI x_.2.2.2)] [(0,E.cells [vM rY x_.1,vI x_.2.1]),(20,E.cells [vS [],V.t T.nilS]),(21,E.cells [vS x1.1,ms 22 g_ 2 aA x_.2.2.1]),(22,ar 63 g_ 2 aA x_.2.2.1)] [0,20,21,22]) 1 (lS) ?_))))
  rintro again9 ⟨x4,x5,x6,x7⟩ g8 h
  refine qs (rq hC [] [17,18,19] [(19,vB (decide (x7<x3)))] [] [] (aT h (fun c2 h=> ?_) (fun c2 h=> ?_)))
  ·refine qk (qs (qb ?_))
   obtain⟨x10,hx10,x11,hx11,h⟩:=cP h
   refine rq hC [.z (.int 0),oC [0] [] (bA G hx10),oC [] [23] (dF G hx11),.z (.nat 24)] [8,22,23,24,25] [(8,V.ref 24 0)] [(0,sR x10.2),(23,some (ar 3 1 1 rI x11.coefs)),(24,sc [ms 23 1 1 rI x11.coefs,vI x11.const])] [(0,true),(23,true),(24,true)] (vj h (fun x_=>aY [(0,V.ref 0 0),(1,vI depth),(4,V.ref 20 0),(5,V.ref 21 0),(6,vI x3),(7,vI x7),(8,V.ref 24 0)] [(0,E.cells [vM rY x_.1,vI x_.2.1]),(20,E.cells [vS [],V.t T.nilS]),(21,E.cells [vS x1.1,ms 22 g8 2 aA x6]),(22,ar 63 g8 2 aA x6),(24,E.cells [vM rI x_.2.2.1,vI x_.2.2.2])] [0,20,21,22,23,24]) (fun j12 h=> ?_) ?_)
   ·
    refine vj h (fun x_=>aY [(0,V.ref 0 0),(1,vI depth),(4,V.ref 20 0),(5,V.ref 21 0),(6,vI x3),(7,vI x7),(8,V.ref 24 0),(32,vB x_.2.2)] [(0,E.cells [vM rY x_.1,vI x_.2.1]),(20,E.cells [vS [],V.t T.nilS]),(21,E.cells [vS x1.1,ms 22 g8 2 aA x6]),(22,ar 63 g8 2 aA x6),(23,ar 3 1 1 rI x11.coefs),(24,E.cells [ms 23 1 1 rI x11.coefs,vI x11.const])] [0,20,21,22,23,24]) (fun j13 h=> ?_) ?_
    ·
     refine aR h (fun c3 h=> ?_) (fun c3 h=> ?_)
     ·exact rk hC (rF 4 c3) (fr 26 7) [(32,vB false)] [] [] (lE h)
     ·obtain⟨x14,hx14,h⟩:=bd h
      exact rk hC [oT c3,oT c3,oC [0] [] (bQ G hx14),oT c3,oT c3] (fr 26 7) [(32,vB (decide ((0:Int)<x14.1)))] [(0,sR x14.2)] [(0,true)] (lE h)
    ·rintro⟨x15,x16,x17⟩ h
     refine aT h (fun c4 h=> ?_) (fun c4 h=> ?_)
     ·obtain⟨x18,hx18,h⟩:=bd h
      refine rq hC [oC [0] [] (bQ G hx18)] [9,33,34,35] [(9,vI x18.1)] [(0,sR x18.2)] [(0,true)] ?_
      obtain⟨x19,hx19,x20,hx20,x21,hx21,h⟩:=kG h
      obtain⟨x22,hx22,x23,hx23,h⟩:=cP h
      exact rk hC [oC [] [25] (mA G hx19),.z (.int 0),oC [0] [] (bA G hx20),.z (.int 0),oC [0] [] (bA G hx21),oC [] [26] (dF G hx22),.z (.at 2),.z (.fz 25 [37] []),.z (.at 2),.z (.fz 26 [44] []),oC [] [27] (fP G hx23)] (fr 36 10) [] [(25,none),(0,sR x21.2),(26,none),(27,some (ar 3 1 1 rI x23.coefs)),(24,sc [ms 27 1 1 rI x23.coefs,vI x23.const])] [(25,true),(0,true),(0,true),(26,true),(27,true)] ⟨(x21.2.b,x21.2.p,x23.coefs,x23.const),h,((lk hC [.fz 27 [] [24]] [] [] [(24,some (E.cells (aK x23))),(27,none)] []).trans (lS))⟩
     ·exact qk ⟨(x15,x16,x11.coefs,x11.const),h,((lk hC [.fz 23 [] [24]] [] [] [(24,some (E.cells (aK x11))),(23,none)] []).trans (lS))⟩
   ·rintro⟨x24,x25,x26,x27⟩ h
    obtain⟨x28,hx28,h⟩:=bd h
    exact rk hC [.z (.int 0),oA (aP aA hx28),oQ (bT (r:=aA) 2 aU x6),oQ (bT (r:=aA) 2 aU [(⟨x26,x27⟩:Affine)])] (fr 46 6) [] [(22,some (ar 63 (g8+1) 2 aA x28)),(21,sc [vS x1.1,ms 22 (g8+1) 2 aA x28])] [] (rk hC [] [7,20,21] [(7,vI (wr (x7+1)))] [] [] ⟨(x24,x25,x28,wr (x7+1)),(g8+1),h,lS⟩)
  ·obtain rfl:=so h
   exact cT (rq hC [.z (.at 2),.z (.fz 22 [] [21])] [52] [] [(21,sc [vS x1.1,vM aA x6]),(22,none),(20,sc [vS x1.1,vM aA x6])] [] (qr eW))
theorem aDC{r_a0}{depth}{r}(h:qI n r_a0 depth=some r):VQ G 319 [eL r_a0] [V.ref 0 0,vI depth] (V.agg (aK r.1)) [eL r.2]:=by
 unfold qI at h
 refine vq aO Tryz.func319 rfl fun w X β0 hC hg=> ?_
 refine rq hC [.z (.nat 20)] [4] [(4,V.ref 20 0)] [(20,sc [V.t T.nilS,vI 0])] [(20,true)] ?_
 obtain⟨x1,hx1,x2,hx2,h⟩:=cP h
 refine rq hC [.z (.int 0),oC [0] [] (bA G hx1),oC [] [21] (dF G hx2),.z (.nat 22)] [5,7,8,9,10] [(5,V.ref 22 0)] [(0,sR x1.2),(21,some (ar 3 1 1 rI x2.coefs)),(22,sc [ms 21 1 1 rI x2.coefs,vI x2.const])] [(0,true),(21,true),(22,true)] (qs (rq hC [] [6] [(6,vI 0)] [] [] (qb (bD (γ:=Nat) h (fun x_ g_=>aY [(0,V.ref 0 0),(1,vI depth),(4,V.ref 20 0),(5,V.ref 22 0),(6,vI x_.2.2.2)] [(0,E.cells [vM rY x_.1,vI x_.2.1]),(20,E.cells [V.t T.nilS,vI 0]),(21,ar 3 g_ 1 rI x_.2.2.1),(22,E.cells [ms 21 g_ 1 rI x_.2.2.1,vI x2.const])] [0,20,21,22]) 1 (lS) ?_))))
 rintro again8 ⟨x3,x4,x5,x6⟩ g7 h
 refine qs (rq hC [] [11,12,13] [(13,vB (decide (x6<depth)))] [] [] (aT h (fun c1 h=> ?_) (fun c1 h=> ?_)))
 ·refine qk (qs (qb ?_))
  obtain⟨x9,hx9,x10,hx10,x11,hx11,h⟩:=kG h
  exact dk hC bC [.z (.int 0),oC [0] [] (bA G hx9),oQ (lM rI hx10),oX rI hx10,.z (.rows (List.map rI x11)),oQ (str rI hx11)] (fr 16 7) [] [(0,sR x9.2),(21,some (ar 3 g7 1 rI x11))] [(0,true)] (qw (zG hC [.lenc 22 0 (List.map rI x11).length] [] [] [(22,sc [ms 21 g7 1 rI x11,vI x2.const])] [] (a1 (kH rI hx11)) (by kernel_rfl)) (rk hC [] [6,14,15] [(6,vI (wr (x6+1)))] [] [] ⟨(x9.2.b,x9.2.p,x11,wr (x6+1)),g7,h,lS⟩))
 ·obtain rfl:=so h
  exact cT (rq hC [.z (.at 2),.z (.fz 21 [] [22])] [23] [] [(22,sc [vM rI x5,vI x2.const]),(21,none),(20,sc [vM rI x5,vI x2.const])] [] (qr eW))
theorem aBU(G:GS): ∀(n:Nat) (r_a0:L16Rd) (depth:Int) (levels:Int) {r:Expr×L16Rd} (h:s_l3Value n r_a0 depth levels=some r),VQ G 297 [eL r_a0] [V.ref 0 0,vI depth,vI levels] (V.agg (cQ r.1)) [eL r.2]:=by
 intro n
 induction n with
 |zero=>intro r_a0 depth levels r h;rw [s_l3Value.eq_def] at h;cases h
 |succ n ih=>
  intro r_a0 depth levels r h
  rw [s_l3Value.eq_def] at h;dsimp only at h
  refine vq aO Tryz.func297 rfl fun w X β0 hC hg=> ?_
  refine rq hC [.z (.nat 20)] [6] [(6,V.ref 20 0)] [(20,sc [vI 0,vI 0,V.t T.nilS,vI 0,vS [],V.t T.nilS,V.t T.nilS])] [(20,true)] (qs (vj h (fun x_=>aY [(0,V.ref 0 0),(1,vI depth),(2,vI levels),(6,V.ref 20 0),(15,vB x_.2.2)] [(0,E.cells [vM rY x_.1,vI x_.2.1]),(20,E.cells [vI 0,vI 0,V.t T.nilS,vI 0,vS [],V.t T.nilS,V.t T.nilS])] [0,20]) (fun j1 h=> ?_) ?_))
  ·
   refine aR h (fun c1 h=> ?_) (fun c1 h=> ?_)
   ·obtain⟨x2,hx2,h⟩:=bd h
    exact rk hC [oF c1,oF c1,oC [0] [] (bQ G hx2),oF c1,oF c1] (fr 9 7) [(15,vB (decide (x2.1=0)))] [(0,sR x2.2)] [(0,true)] (lE h)
   ·exact rk hC (rT 4 c1) (fr 9 7) [(15,vB true)] [] [] (lE h)
  ·rintro⟨x3,x4,x5⟩ h
   refine aT h (fun c2 h=> ?_) (fun c2 h=> ?_)
   ·refine qs ?_
    obtain⟨x6,hx6,h⟩:=bd h
    refine rq hC [oC [0] [] (bQ G hx6)] [16,17] [(17,vI x6.1)] [(0,sR x6.2)] [(0,true)] (qb (rq hC [] [18,19] [(18,vB (decide (x6.1=0)))] [] [] (aT h (fun c3 h=> ?_) (fun c3 h=> ?_))))
    ·obtain⟨x7,hx7,h⟩:=bd h
     obtain rfl:=so h
     exact rq hC [.z (.int 0),oC [0] [] (bA G hx7)] (fr 20 4) [] [(0,sR x7.2),(20,sc [vI 1,vI x7.1,V.t T.nilS,vI 0,vS [],V.t T.nilS,V.t T.nilS])] [(0,true)] (qr eW)
    ·refine rq hC [] [24,25] [(24,vB (decide (x6.1=1)))] [] [] (aT h (fun c4 h=> ?_) (fun c4 h=> ?_))
     ·obtain⟨x8,hx8,h⟩:=bd h
      obtain rfl:=so h
      exact rq hC [oC [0] [] (aDC G hx8)] (fr 26 4) [] [(0,sR x8.2),(20,sc [vI 2,vI 0,vM rI x8.1.coefs,vI x8.1.const,vS [],V.t T.nilS,V.t T.nilS])] [(0,true)] (qr eW)
     ·refine qk ?_
      obtain⟨x9,hx9,h⟩:=bd h
      obtain rfl:=so h
      exact rq hC [oC [0] [] (O5 G hx9)] (fr 30 4) [] [(0,sR x9.2),(20,sc [vI 3,vI 0,V.t T.nilS,vI 0,vS x9.1.array,vM aA x9.1.subs,V.t T.nilS])] [(0,true)] (qr eW)
   ·refine qk ?_
    obtain⟨x10,hx10,h⟩:=bd h
    refine rq hC [.z (.int 0),oC [0] [] (bA G hx10),.z (.nat 21)] [7,34,35,36,37] [(7,V.ref 21 0)] [(0,sR x10.2),(21,sc [vI x10.1,vI 0,V.t T.nilS,vI 0,vS [],V.t T.nilS,V.t T.nilS])] [(0,true),(21,true)] (qs (rq hC [] [8] [(8,vI 0)] [] [] (qb (qw (lk hC [.growc 21 6 22 84] [] [] [(22,some (ar 84 1 7 aI [])),(21,sc [vI x10.1,vI 0,V.t T.nilS,vI 0,vS [],V.t T.nilS,ms 22 1 7 aI []])] [(22,true)]) (bD (γ:=Nat) h (fun x_ g_=>aY [(0,V.ref 0 0),(1,vI depth),(2,vI levels),(6,V.ref 20 0),(7,V.ref 21 0),(8,vI x_.2.2.2)] [(0,E.cells [vM rY x_.1,vI x_.2.1]),(20,E.cells [vI 0,vI 0,V.t T.nilS,vI 0,vS [],V.t T.nilS,V.t T.nilS]),(21,E.cells [vI x10.1,vI 0,V.t T.nilS,vI 0,vS [],V.t T.nilS,ms 22 g_ 7 aI x_.2.2.1]),(22,ar 84 g_ 7 aI x_.2.2.1)] [0,20,21,22]) 1 (lS) ?_)))))
    rintro again16 ⟨x11,x12,x13,x14⟩ g15 h
    refine qs (rq hC [] [38,39] [(39,vB (decide (x14<2)))] [] [] (aT h (fun c5 h=> ?_) (fun c5 h=> ?_)))
    ·refine qk (qs (qb ?_))
     obtain⟨x17,hx17,x18,hx18,h⟩:=cP h
     exact dk hC bC [oC [0] [] (ih (⟨x11,x12⟩:L16Rd) depth (wr (levels-1)) hx17),.z (.int 2),.z (.rows (List.map aI [x17.1])),oQ (rV x17.1),oA (aP aI hx18),oQ (bT (r:=aI) 7 dX x13),oQ (bT (r:=aI) 7 dX [x17.1])] (fr 42 10) [] [(0,sR x17.2),(22,some (ar 84 (g15+1) 7 aI x18)),(21,sc [vI x10.1,vI 0,V.t T.nilS,vI 0,vS [],V.t T.nilS,ms 22 (g15+1) 7 aI x18])] [(0,true)] (rk hC [] [8,40,41] [(8,vI (wr (x14+1)))] [] [] ⟨(x17.2.b,x17.2.p,x18,wr (x14+1)),(g15+1),h,lS⟩)
    ·obtain rfl:=so h
     exact cT (rq hC [.z (.at 2),.z (.fz 22 [] [21])] [52] [] [(21,sc [vI x10.1,vI 0,V.t T.nilS,vI 0,vS [],V.t T.nilS,vM aI x13]),(22,none),(20,sc [vI x10.1,vI 0,V.t T.nilS,vI 0,vS [],V.t T.nilS,vM aI x13])] [] (qr eW))
theorem aDv{r_a0}{depth}{r}(h:tH n r_a0 depth=some r):VQ G 271 [eL r_a0] [V.ref 0 0,vI depth] (V.agg (cO r.1)) [eL r.2]:=by
 unfold tH at h
 refine vq aO Tryz.func271 rfl fun w X β0 hC hg=> ?_
 refine rq hC [.z (.nat 20)] [4] [(4,V.ref 20 0)] [(20,sc [vS [],V.t T.nilS,vI 0,vI 0,V.t T.nilS,vI 0,vS [],V.t T.nilS,V.t T.nilS])] [(20,true)] ?_
 obtain⟨x1,hx1,x2,hx2,x3,hx3,h⟩:=kG h
 refine rq hC [oC [0] [] (O5 G hx1),.z (.int 0),oC [0] [] (bA G hx2),oC [0] [] (aBU G n x2.2 depth x2.1 hx3),.z (.nat 21)] (fr 5 11) [(5,V.ref 21 0)] [(0,sR x3.2),(21,sc [vS x1.1.array,vM aA x1.1.subs,vI x3.1.kind,vI x3.1.num,vM rI x3.1.index.coefs,vI x3.1.index.const,vS x3.1.read.array,vM aA x3.1.read.subs,vM aI x3.1.kids])] [(0,true),(0,true),(0,true),(21,true)] (qs ?_)
 obtain⟨x4,hx4,h⟩:=bd h
 refine rq hC [oV (pT G hx4)] [16,17,18] [(18,vB x4)] [] [] (aT h (fun c1 h=> ?_) (fun c1 h=> ?_))
 ·obtain rfl:=so h
  exact rq hC [] [19] [] [(20,sc [vS x1.1.array,vM aA x1.1.subs,vI x3.1.kind,vI x3.1.num,vM rI x3.1.index.coefs,vI x3.1.index.const,vS x3.1.read.array,vM aA x3.1.read.subs,vM aI x3.1.kids])] [] (qr eW)
 ·refine qk ?_
  obtain⟨x5,hx5,h⟩:=bd h
  obtain rfl:=so h
  exact rq hC [oC [] [22] (jV G n hx5),.z (.at 5),.z (.fz 22 [20] []),.z (.int 0)] (fr 20 5) [] [(22,none),(20,sc [vS [65],vM aA [x5],vI 1,vI 1,V.t T.nilS,vI 0,vS [],V.t T.nilS,V.t T.nilS])] [(22,true)] (qr eW)
theorem aB4{sizes}{r}(h:uK n sizes=some r):VQ G 272 [] [vM rI sizes] (V.tup [ms 0 1 2 aC r.1,vB r.2]) [ar 56 1 2 aC r.1]:=by
 unfold uK at h
 refine vq aO Tryz.func272 rfl fun w X β0 hC hg=> ?_
 refine rq hC [] [2,3] [] [] [] (rq hC [.z (.nat 20)] [4,6] [(4,ms 20 1 2 aC [])] [(20,some (ar 56 1 2 aC []))] [(20,true)] (qs (rq hC [oN rI sizes] [7,8,9] [(9,vB (decide ((4:Int)<(sizes.length:Int))))] [] [] (aT h (fun c1 h=> ?_) (fun c1 h=> ?_)))))
 ·obtain rfl:=so h
  exact rq hC [] [2,3,10] [(2,ms 20 1 2 aC []),(3,vB false)] [] [] (qw (lk hC [.ren 2 20 0] [2] [(2,ms 0 1 2 aC [])] [(0,some (ar 56 1 2 aC [])),(20,none)] [(0,true)]) (qr eW))
 ·refine qk (qs (rq hC [] [5] [(5,vI 0)] [] [] (qb (bD (γ:=Nat) h (fun x_ g_=>aY [(0,vM rI sizes),(4,ms 20 g_ 2 aC x_.1),(5,vI x_.2)] [(20,ar 56 g_ 2 aC x_.1)] [20]) 1 (lS) ?_))))
  rintro again4 ⟨x1,x2⟩ g3 h
  refine qs (rq hC [oN rI sizes] (fr 11 4) [(14,vB (decide (x2<(sizes.length:Int))))] [] [] (aT h (fun c2 h=> ?_) (fun c2 h=> ?_)))
  ·refine qk (qs (qb (qs (vj h (fun x_=>aY [(0,vM rI sizes),(4,ms 20 g3 2 aC x1),(5,vI x2),(28,vB x_)] [(20,ar 56 g3 2 aC x1)] [20]) (fun j5 h=> ?_) (fun x7 h=> ?_)))))
   ·
    obtain⟨x6,hx6,h⟩:=bd h
    refine aR h (fun c3 h=> ?_) (fun c3 h=> ?_)
    ·exact rk hC ([oR rI hx6]++rF 3 c3++[oR rI hx6]++rF 3 c3) (fr 17 12) [(28,vB (decide ((99:Int)<x6)))] [] [] (lE h)
    ·exact rk hC ([oR rI hx6]++rT 6 c3) (fr 17 12) [(28,vB true)] [] [] (lE h)
   ·refine aT h (fun c4 h=> ?_) (fun c4 h=> ?_)
    ·obtain rfl:=so h
     exact rq hC [.z (.nat 21)] [2,3,29] [(2,ms 21 1 2 aC []),(3,vB false)] [(21,some (ar 56 1 2 aC []))] [(21,true)] (qw (lk hC [.ren 2 21 0] [2] [(2,ms 0 1 2 aC [])] [(0,some (ar 56 1 2 aC [])),(21,none)] [(0,true)]) (qr eW))
    ·refine qk ?_
     obtain⟨x8,hx8,x9,hx9,x10,hx10,h⟩:=kG h
     obtain⟨x11,hx11,h⟩:=bd h
     exact dk hC bC [oC [] [21] (jV G n hx8),.z (.at 11),.z (.fz 21 [31] []),.z (.int 0),oR rI hx9,oC [] [22] (dF G hx10),.z (.at 5),.z (.fz 22 [37] []),.z (.int 0),.z (.int 0),oA (aP aC hx11),oQ (bT (r:=aC) 2 b9 x1),oQ (bT (r:=aC) 2 b9 [(⟨[x8],[x10]⟩:Loop)])] [4,30,31,32,33,34,35,36,37,38,39,40,41] [(4,ms 20 (g3+1) 2 aC x11)] [(21,none),(22,none),(20,some (ar 56 (g3+1) 2 aC x11))] [(21,true),(22,true)] (rk hC [] [5,15,16] [(5,vI (wr (x2+1)))] [] [] ⟨(x11,wr (x2+1)),(g3+1),h,lS⟩)
  ·obtain rfl:=so h
   exact cT (rq hC [] [2,3,42] [(2,ms 20 g3 2 aC x1),(3,vB true)] [] [] (qw (lk hC [.ren 2 20 0] [2] [(2,ms 0 1 2 aC x1)] [(0,some (ar 56 1 2 aC x1)),(20,none)] [(0,true)]) (qr eW)))
theorem aDu{r_a0}{r}(h:tG n r_a0=some r):VQ G 233 [eL r_a0] [V.ref 0 0] (V.agg (lG r.1)) [eL r.2]:=by
 unfold tG at h
 refine vq aO Tryz.func233 rfl fun w X β0 hC hg=> ?_
 refine rq hC [.z (.nat 20)] [2] [(2,V.ref 20 0)] [(20,sc [V.t T.nilS,V.t T.nilS])] [(20,true)] (qs (rq hC [] [3] [(3,vI 0)] [] [] (qb (jP h (fun x_=>aY [(0,V.ref 0 0),(2,V.ref 20 0),(3,vI x_.2.2)] [(0,E.cells [vM rY x_.1,vI x_.2.1]),(20,E.cells [V.t T.nilS,V.t T.nilS])] [0,20]) lS ?_))))
 rintro again4 ⟨x1,x2,x3⟩ h
 refine qs (rq hC [] [16,17] [(17,vB (decide (x3<4)))] [] [] (aT h (fun c1 h=> ?_) (fun c1 h=> ?_)))
 ·refine qk (qs (qb ?_))
  obtain⟨x5,hx5,h⟩:=bd h
  refine rq hC [oC [0] [21] (aDy G hx5),.z (.nat 22)] [4,20,21,22] [(4,V.ref 22 0)] [(21,some (ar 56 1 2 aC x5.1)),(0,sR x5.2),(22,sc [ms 21 1 2 aC x5.1,V.t T.nilS])] [(0,true),(21,true),(22,true)] (qs ?_)
  obtain⟨x6,hx6,h⟩:=bd h
  refine rq hC [.z (.int 0),oC [0] [] (bA G hx6)] [5,23,24,25] [(5,vI x6.1)] [(0,sR x6.2)] [(0,true)] (qb (qw (lk hC [.fz 21 [] [22]] [] [] [(22,sc [vM aC x5.1,V.t T.nilS]),(21,none)] []) (qw (lk hC [.growc 22 1 23 86] [] [] [(23,some (ar 86 1 9 aG [])),(22,sc [vM aC x5.1,ms 23 1 9 aG []])] [(23,true)]) (bD (γ:=Nat) h (fun x_ g_=>aY [(0,V.ref 0 0),(2,V.ref 20 0),(3,vI x3),(4,V.ref 22 0),(5,vI x_.2.2.2.2)] [(0,E.cells [vM rY x_.1,vI x_.2.1]),(20,E.cells [V.t T.nilS,V.t T.nilS]),(22,E.cells [vM aC x_.2.2.1,ms 23 g_ 9 aG x_.2.2.2.1]),(23,ar 86 g_ 9 aG x_.2.2.2.1)] [0,20,21,22,23]) 1 (lS) ?_))))
  rintro again13 ⟨x7,x8,x9,x10,x11⟩ g12 h
  refine qs (rq hC [] [26,27] [(27,vB (decide ((0:Int)<x11)))] [] [] (aT h (fun c2 h=> ?_) (fun c2 h=> ?_)))
  ·refine qk ?_
   obtain⟨j14,hj14,h⟩:=R7 h
   refine n4 (γ:=Nat) (j:=j14) (r:=r) (fun x_ g_=>aY [(0,V.ref 0 0),(2,V.ref 20 0),(3,vI x3),(4,V.ref 22 0),(5,vI x11)] [(0,E.cells [vM rY x_.1,vI x_.2.1]),(20,E.cells [V.t T.nilS,V.t T.nilS]),(22,E.cells [vM aC x9,ms 23 g_ 9 aG x_.2.2]),(23,ar 86 g_ 9 aG x_.2.2)] [0,20,21,22,23]) ?_ ?_
   ·
    refine qb (rq hC [] [6] [(6,vI 0)] [] [] (qb (jP h (fun x_=>aY [(0,V.ref 0 0),(2,V.ref 20 0),(3,vI x3),(4,V.ref 22 0),(5,vI x11),(6,vI x_.2.2)] [(0,E.cells [vM rY x_.1,vI x_.2.1]),(20,E.cells [V.t T.nilS,V.t T.nilS]),(22,E.cells [vM aC x9,ms 23 g12 9 aG x10]),(23,ar 86 g12 9 aG x10)] [0,20,21,22,23]) lS ?_)))
    rintro again18 ⟨x15,x16,x17⟩ h
    refine qs (rq hC [] [30,31] [(31,vB (decide (x17<5)))] [] [] (aT h (fun c3 h=> ?_) (fun c3 h=> ?_)))
    ·refine qk (qs (qb ?_))
     obtain⟨x19,hx19,h⟩:=bd h
     refine rq hC [oN aC x9,oC [0] [] (aDv G hx19),.z (.nat 24)] [7,34,35,36,37,38] [(7,V.ref 24 0)] [(0,sR x19.2),(24,some (E.cells (cO x19.1)))] [(0,true),(24,true)] (qs ?_)
     obtain⟨x20,hx20,x21,hx21,h⟩:=cP h
     refine dk hC bC [oV (rW G n hx20),.z (.int 1),.z (.nat 25),.z (.at 7),.z (.fz 25 [44] []),oV (wL G hx21)] [8,9,39,40,41,42,43,44,45,46,47,48] [(9,vB x21.2)] [(25,none)] [(25,true)] (rq hC [] [49] [(49,vB x21.2)] [] [] (aT h (fun c4 h=> ?_) (fun c4 h=> ?_)))
     ·obtain⟨x22,hx22,h⟩:=bd h
      exact rq hC [.z (.int 0),oA (aP aG hx22),oQ (bT (r:=aG) 9 dW x10),oQ (bT (r:=aG) 9 dW [x19.1])] (fr 50 6) [] [(23,some (ar 86 (g12+1) 9 aG x22)),(22,sc [vM aC x9,ms 23 (g12+1) 9 aG x22])] [] (cT ⟨(x19.2.b,x19.2.p,x22),(g12+1),h,lS⟩)
     ·exact qk (rk hC [] [6,32,33] [(6,vI (wr (x17+1)))] [] [] (lE h))
    ·exact cT ⟨(x15,x16,x10),g12,h,lS⟩
   ·rintro⟨x23,x24,x25⟩ g26 h
    subst hj14
    exact rk hC [] [5,28,29] [(5,vI (wr (x11-1)))] [] [] ⟨(x23,x24,x9,x25,wr (x11-1)),g26,h,lS⟩
  ·refine cT (qs ?_)
   obtain⟨x27,hx27,x28,hx28,h⟩:=cP h
   refine dk hC bC [oV (rW G n hx27),.z (.at 7),.z (.fz 23 [] [22]),oV (wL G hx28)] [10,11,56,57,58,59,60,61] [(10,vI x28.1),(11,vB x28.2)] [(22,sc [vM aC x9,vM aG x10]),(23,none)] [] (vj h (fun x_=>aY [(0,V.ref 0 0),(2,V.ref 20 0),(3,vI x3),(4,V.ref 22 0),(66,vB x_)] [(0,E.cells [vM rY x7,vI x8]),(20,E.cells [V.t T.nilS,V.t T.nilS]),(22,E.cells [vM aC x9,vM aG x10])] [0,20,21,22,23]) (fun j29 h=> ?_) (fun x30 h=> ?_))
   ·
    refine aR h (fun c5 h=> ?_) (fun c5 h=> ?_)
    ·exact rk hC (rF 3 c5) (fr 62 5) [(66,vB false)] [] [] (lE h)
    ·exact rk hC (rT 3 c5) (fr 62 5) [(66,vB (decide (x28.1≤40)))] [] [] (lE h)
   ·refine aT h (fun c6 h=> ?_) (fun c6 h=> ?_)
    ·obtain rfl:=so h
     exact rq hC [] [67] [] [(20,sc [vM aC x9,vM aG x10])] [] (qr eW)
    ·exact qk (rk hC [] [3,18,19] [(3,vI (wr (x3+1)))] [] [] (lE h))
 ·refine cT ?_
  obtain⟨x31,hx31,h⟩:=bd h
  refine rq hC [oV (vK G hx31),.z (.nat 21)] [12,13,68,69,70,71] [(12,V.ref 21 0)] [(21,some (E.cells (cO x31.1)))] [(21,true)] ?_
  obtain⟨x32,hx32,h⟩:=bd h
  obtain rfl:=so h
  exact rq hC [.z (.int 0),oC [] [22] (aB4 G hx32)] [14,15,72,73,74,75,76] [(14,ms 22 1 2 aC x32.1)] [(22,some (ar 56 1 2 aC x32.1))] [(22,true)] (rq hC [.z (.int 1),.z (.nat 23)] (fr 77 4) [] [(23,some (ar 86 1 9 aG [x31.1])),(20,sc [ms 22 1 2 aC x32.1,ms 23 1 9 aG [x31.1]])] [(23,true)] (qw (lk hC [.fz 22 [14] [20]] [14] [(14,vM aC x32.1)] [(20,sc [vM aC x32.1,ms 23 1 9 aG [x31.1]]),(22,none)] []) (qw (lk hC [.fz 23 [] [20]] [] [] [(20,sc [vM aC x32.1,vM aG [x31.1]]),(23,none)] []) (qr eW))))
theorem aDt{r_a0}{r}(h:tF n r_a0=some r):VQ G 183 [eL r_a0] [V.ref 0 0] (V.agg (bH r.1)) [eL r.2]:=by
 unfold tF at h
 refine vq aO Tryz.func183 rfl fun w X β0 hC hg=> ?_
 refine rq hC [.z (.nat 20)] [2] [(2,V.ref 20 0)] [(20,sc [V.t T.nilS,V.t T.nilS])] [(20,true)] ?_
 obtain⟨x1,hx1,h⟩:=bd h
 refine rq hC [oV (rW G n hx1),.z (.nat 21)] [3,5,6] [(3,V.ref 21 0)] [(21,sc [vM aJ x1,V.t T.nilS])] [(21,true)] (qs ?_)
 obtain⟨x2,hx2,h⟩:=bd h
 refine rq hC [.z (.int 0),oC [0] [] (bA G hx2)] [4,7,8,9] [(4,vI x2.1)] [(0,sR x2.2)] [(0,true)] (qb (qw (lk hC [.growc 21 1 22 60] [] [] [(22,some (ar 60 1 2 aD [])),(21,sc [vM aJ x1,ms 22 1 2 aD []])] [(22,true)]) (bD (γ:=Nat) h (fun x_ g_=>aY [(0,V.ref 0 0),(2,V.ref 20 0),(3,V.ref 21 0),(4,vI x_.2.2.2)] [(0,E.cells [vM rY x_.1,vI x_.2.1]),(20,E.cells [V.t T.nilS,V.t T.nilS]),(21,E.cells [vM aJ x1,ms 22 g_ 2 aD x_.2.2.1]),(22,ar 60 g_ 2 aD x_.2.2.1)] [0,20,21,22]) 1 (lS) ?_)))
 rintro again8 ⟨x3,x4,x5,x6⟩ g7 h
 refine qs (rq hC [] [10,11] [(11,vB (decide ((0:Int)<x6)))] [] [] (aT h (fun c1 h=> ?_) (fun c1 h=> ?_)))
 ·refine qk (qs (qb ?_))
  obtain⟨x9,hx9,x10,hx10,h⟩:=cP h
  exact dk hC bC [oC [0] [] (aDu G hx9),.z (.int 0),oA (aP aD hx10),oQ (bT (r:=aD) 2 b8 x5),oQ (bT (r:=aD) 2 b8 [x9.1])] (fr 14 7) [] [(0,sR x9.2),(22,some (ar 60 (g7+1) 2 aD x10)),(21,sc [vM aJ x1,ms 22 (g7+1) 2 aD x10])] [(0,true)] (rk hC [] [4,12,13] [(4,vI (wr (x6-1)))] [] [] ⟨(x9.2.b,x9.2.p,x10,wr (x6-1)),(g7+1),h,lS⟩)
 ·refine cT (qs ?_)
  obtain⟨x11,hx11,h⟩:=bd h
  refine rq hC [.z (.at 2),.z (.fz 22 [] [21]),oV (cY G hx11)] [21,22] [(22,vB x11)] [(21,sc [vM aJ x1,vM aD x5]),(22,none)] [] (aT h (fun c2 h=> ?_) (fun c2 h=> ?_))
  ·obtain rfl:=so h
   exact rq hC [] [23] [] [(20,sc [vM aJ x1,vM aD x5])] [] (qr eW)
  ·refine qk (qs ?_)
   obtain⟨x12,hx12,x13,hx13,h⟩:=cP h
   obtain rfl:=so h
   exact dk hC bC [oV (rW G n hx12),oA (uG aD hx13),oQ (bT (r:=aD) 2 b8 x5)] (fr 24 5) [] [(20,sc [vM aJ x12,vM aD x13])] [] (qr eW)
theorem aDo{r_a0}{r}(h:s9 n r_a0=some r):VQ G 119 [eL r_a0] [V.ref 0 0] (V.agg (bH r.1)) [eL r.2]:=by
 unfold s9 at h
 refine vq aO Tryz.func119 rfl fun w X β0 hC hg=> ?_
 refine rq hC [.z (.nat 20)] [2] [(2,V.ref 20 0)] [(20,sc [V.t T.nilS,V.t T.nilS])] [(20,true)] ?_
 obtain⟨x1,hx1,h⟩:=bd h
 refine rq hC [.z (.int 0),oC [0] [] (nG G hx1)] [3,6,7,8] [(3,vS x1.1)] [(0,sR x1.2)] [(0,true)] ?_
 obtain⟨x2,hx2,x3,hx3,h⟩:=cP h
 refine rq hC [oS hx2,oV (zW G hx3),.z (.nat 21)] [4,5,9,10,11,12,13,14] [(4,V.ref 21 0),(5,vB x3.2)] [(21,some (E.cells (bH x3.1)))] [(21,true)] (qs (vj h (fun x_=>aY [(0,V.ref 0 0),(2,V.ref 20 0),(4,V.ref 21 0),(20,vB x_.2.2)] [(0,E.cells [vM rY x_.1,vI x_.2.1]),(20,E.cells [V.t T.nilS,V.t T.nilS]),(21,E.cells (bH x3.1))] [0,20,21]) (fun j4 h=> ?_) ?_))
 ·
  refine aR h (fun c1 h=> ?_) (fun c1 h=> ?_)
  ·exact rk hC (rF 4 c1) (fr 15 6) [(20,vB false)] [] [] (lE h)
  ·obtain⟨x5,hx5,h⟩:=bd h
   exact rk hC [oT c1,oT c1,oC [0] [] (bQ G hx5),oT c1,oT c1] (fr 15 6) [(20,vB (decide ((0:Int)<x5.1)))] [(0,sR x5.2)] [(0,true)] (lE h)
 ·rintro⟨x6,x7,x8⟩ h
  refine aT h (fun c2 h=> ?_) (fun c2 h=> ?_)
  ·obtain rfl:=so h
   exact rq hC [] [21] [] [(20,some (E.cells (bH x3.1)))] [] (qr eW)
  ·refine qk ?_
   obtain⟨x9,hx9,h⟩:=bd h
   obtain rfl:=so h
   exact rq hC [oC [0] [] (aDt G hx9)] [22,23] [] [(0,sR x9.2),(20,some (E.cells (bH x9.1)))] [(0,true)] (qr eW)
theorem aDq{r_a0}{r}(h:tB n r_a0=some r):VQ G 46 [eL r_a0] [V.ref 0 0] (V.tup [V.agg (bH r.1),vI r.2.1,vI r.2.2.1,vI r.2.2.2.1]) [eL r.2.2.2.2]:=by
 unfold tB at h
 refine vq aO Tryz.func46 rfl fun w X β0 hC hg=> ?_
 refine rq hC [.z (.nat 20)] (fr 2 4) [(2,V.ref 20 0)] [(20,sc [V.t T.nilS,V.t T.nilS])] [(20,true)] ?_
 obtain⟨x1,hx1,x2,hx2,h⟩:=cP h
 refine rq hC [oC [0] [] (aDo G hx1),oC [0] [] (aAE G hx2),.z (.nat 21)] [6,8,9,10,11] [(6,V.ref 21 0)] [(0,sR x2.2),(21,some (E.cells (bH x2.1)))] [(0,true),(0,true),(21,true)] ?_
 obtain⟨x3,hx3,h⟩:=bd h
 refine rq hC [.z (.int 0),oC [0] [] (bA G hx3)] [7,12,13,14] [(7,vI x3.1)] [(0,sR x3.2)] [(0,true)] (qs ?_)
 obtain⟨x4,hx4,x5,hx5,h⟩:=cP h
 obtain rfl:=so h
 exact dk hC bC [.z (.int 0),oC [0] [] (bA G hx4),.z (.int 0),oC [0] [] (bA G hx5)] [3,4,5,15,16,17,18,19,20,21,22] [(3,vI x3.1),(4,vI x4.1),(5,vI x5.1)] [(0,sR x5.2),(20,some (E.cells (bH x2.1)))] [(0,true),(0,true)] (qr eW)
theorem aB3{code}{r}(h:nR n code=some r):VQ G 47 [] [vM rY code] (V.ref 0 0) [eL r]:=by
 unfold nR at h
 refine vq aO Tryz.func47 rfl fun w X β0 hC hg=> ?_
 refine rq hC [] [2] [] [] [] (vj h (fun x_=>aY [(0,vM rY x_)] [] []) (fun j1 h=> ?_) (fun x3 h=> ?_))
 ·
  refine rq hC [oN rY code] [3,4,5] [(5,vB (decide ((2000:Int)<(code.length:Int))))] [] [] (aT h (fun c1 h=> ?_) (fun c1 h=> ?_))
  ·obtain⟨x2,hx2,h⟩:=bd h
   exact rk hC [oA (uG rY hx2),oQ (bT (r:=rY) 1 (fun _=>rfl) code)] [0,6,7] [(0,vM rY x2)] [] [] (lE h)
  ·exact qk (lE h)
 ·obtain rfl:=so h
  exact rq hC [.z (.nat 0)] [2,8,9,10] [(2,V.ref 0 0)] [(0,sc [vM rY x3,vI 0])] [(0,true)] (qr eW)
theorem qY{p}{x}{r}(h:dS n p x=some r):PQ G 175 [V.agg (bH p),V.agg (X5 x)] (V.agg (cO r)):=by
 unfold dS at h
 refine pq aO Tryz.func175 rfl fun w X hC=> ?_
 refine rq hC [.z (.b (true)),.z (.b (true)),.z (.nat 20)] [2,3,4] [(2,V.tp (bL p)),(3,V.tp (G5 x)),(4,V.ref 20 0)] [(20,sc [vS [],V.t T.nilS,vI 0,vI 0,V.t T.nilS,vI 0,vS [],V.t T.nilS,V.t T.nilS])] [(20,true)] (qs ?_)
 obtain⟨x1,hx1,x2,hx2,h⟩:=cP h
 obtain rfl:=so h
 exact dk hC bC [oR aD hx1,oR aG hx2] (fr 5 11) [] [(20,some (E.cells (cO x2)))] [] (qr eR)
theorem uZ{p}{x}{r}(h:fJ n p x=some r):VQ G 116 [] [V.agg (bH p),V.agg (X5 x)] (V.tup [ms 0 1 1 rI r.1,vI r.2]) [ar 3 1 1 rI r.1]:=by
 unfold fJ at h
 refine vq aO Tryz.func116 rfl fun w X β0 hC hg=> ?_
 refine rq hC [.z (.b (true)),.z (.b (true))] (fr 2 4) [(2,V.tp (bL p)),(3,V.tp (G5 x))] [] [] ?_
 obtain⟨x1,hx1,h⟩:=bd h
 refine rq hC [oV (qY G hx1),.z (.nat 20)] [6,10,11,12] [(6,V.ref 20 0)] [(20,some (E.cells (cO x1)))] [(20,true)] (rq hC [] [7] [(7,V.t T.nilS)] [] [] (qs ?_))
 obtain⟨x2,hx2,h⟩:=bd h
 refine rq hC [oC [] [21] (X4 G n x1.value hx2),oN aV x2] (fr 13 5) [(15,ms 21 1 2 aV x2),(16,vI (x2.length:Int)),(17,vI 0)] [(21,some (ar 81 1 2 aV x2))] [(21,true)] (qb (qw (lk hC [.grow 7 22 3] [7] [(7,ms 22 1 1 rI [])] [(22,some (ar 3 1 1 rI []))] [(22,true)]) (bD (γ:=Nat) h (fun x_ g_=>aY [(2,V.tp (bL p)),(3,V.tp (G5 x)),(6,V.ref 20 0),(7,ms 22 g_ 1 rI x_.1),(15,ms 21 1 2 aV x2),(16,vI (x2.length:Int)),(17,vI x_.2)] [(20,E.cells (cO x1)),(21,ar 81 1 2 aV x2),(22,ar 3 g_ 1 rI x_.1)] [20,21,22]) 1 (lS) ?_)))
 rintro again6 ⟨x3,x4⟩ g5 h
 refine rq hC [] [18] [(18,vB (decide (x4<(x2.length:Int))))] [] [] (qs (aT h (fun c1 h=> ?_) (fun c1 h=> ?_)))
 ·refine qk (qs (qb ?_))
  obtain⟨x7,hx7,h⟩:=bd h
  refine rq hC [oQ (lM aV hx7),oX aV hx7,.z (.nat 23)] [9,19,20] [(9,V.ref 23 0)] [(23,some (E.cells (cB x7)))] [(23,true)] ?_
  obtain⟨x8,hx8,x9,hx9,h⟩:=cP h
  exact rk hC [oV (dN G hx8),.z (.int 0),oA (aP rI hx9),oQ (bT (r:=rI) 1 (fun _=>rfl) x3),oQ (bT (r:=rI) 1 (fun _=>rfl) [x8])] [7,21,22,23,24,25,26,27,28] [(7,ms 22 (g5+1) 1 rI x9)] [(22,some (ar 3 (g5+1) 1 rI x9))] [] (rk hC [] [17,29] [(17,vI (wr (x4+1)))] [] [] ⟨(x9,wr (x4+1)),(g5+1),h,lS⟩)
 ·refine cT ?_
  obtain⟨x10,hx10,h⟩:=bd h
  obtain rfl:=so h
  exact rq hC [oV (dN G hx10)] [4,5,30,31,32,33,34,35,36] [(4,ms 22 g5 1 rI x3),(5,vI x10)] [] [] (qw (lk hC [.ren 4 22 0] [4] [(4,ms 0 1 1 rI x3)] [(0,some (ar 3 1 1 rI x3)),(22,none)] [(0,true)]) (qr eW))
theorem aCc{nest}{p}{r}(h:qP n nest p=some r):PQ G 191 [vM aC nest,vM rI p] (vB r):=by
 unfold qP at h
 refine pq aO Tryz.func191 rfl fun w X hC=> ?_
 refine rq hC [] [4] [] [] [] (qs (vj h (fun x_=>aY [(0,vM aC nest),(1,vM rI p),(23,vB x_)] [] []) (fun j1 h=> ?_) (fun x4 h=> ?_)))
 ·
  obtain⟨x2,hx2,h⟩:=bd h
  refine aR h (fun c1 h=> ?_) (fun c1 h=> ?_)
  ·obtain⟨x3,hx3,h⟩:=bd h
   refine aR h (fun c2 h=> ?_) (fun c2 h=> ?_)
   ·exact rk hC [oV (mH G hx2),oF c1,oF c1,oV (t6 G hx3),oF c1,oF c1,oF c2,oF c2,oN rI p,oF c2,oF c2,oN aC nest,oF c2,oF c2] (fr 9 15) [(23,vB (!decide ((p.length:Int)=(nest.length:Int))))] [] [] (lE h)
   ·exact rk hC ([oV (mH G hx2),oF c1,oF c1,oV (t6 G hx3),oF c1,oF c1]++rT 6 c2) (fr 9 15) [(23,vB true)] [] [] (lE h)
  ·exact rk hC ([oV (mH G hx2)]++rT 4 c1++sT 6) (fr 9 15) [(23,vB true)] [] [] (lE h)
 ·refine aT h (fun c3 h=> ?_) (fun c3 h=> ?_)
  ·obtain rfl:=so h
   exact rq hC [] [4] [(4,vB false)] [] [] (qr eR)
  ·refine qk (qs (rq hC [oN aC nest] [24,25,26] [(24,vM aC nest),(25,vI (nest.length:Int)),(26,vI 0)] [] [] (qb (jP h (fun x_=>aY [(1,vM rI p),(24,vM aC nest),(25,vI (nest.length:Int)),(26,vI x_)] [] []) lS ?_))))
   rintro again6 x5 h
   refine rq hC [] [27] [(27,vB (decide (x5<(nest.length:Int))))] [] [] (qs (aT h (fun c4 h=> ?_) (fun c4 h=> ?_)))
   ·refine qk (qs (qb ?_))
    obtain⟨x7,hx7,h⟩:=bd h
    refine rq hC [oR aC hx7,.z (.nat 20)] [5,6,28,29,30] [(5,vI x5),(6,V.ref 20 0)] [(20,some (E.cells (jD x7)))] [(20,true)] (qs ?_)
    obtain⟨x8,hx8,x9,hx9,h⟩:=cP h
    refine dk hC bC [oA (uG rI hx8),oQ (bT (r:=rI) 1 (fun _=>rfl) p),oV (vQ G hx9)] [7,8,31,32,33,34,35,36,37,38] [(7,vI x9.1),(8,vI x9.2)] [] [] (vj h (fun x_=>aY [(1,vM rI p),(24,vM aC nest),(25,vI (nest.length:Int)),(26,vI x5),(52,vB x_)] [(20,E.cells (jD x7))] [20]) (fun j10 h=> ?_) (fun x12 h=> ?_))
    ·
     obtain⟨x11,hx11,h⟩:=bd h
     refine aR h (fun c5 h=> ?_) (fun c5 h=> ?_)
     ·exact rk hC ([oR rI hx11]++rF 3 c5++[oR rI hx11]++rF 4 c5) (fr 39 14) [(52,vB (decide (x9.2≤x11)))] [] [] (lE h)
     ·exact rk hC ([oR rI hx11]++rT 7 c5) (fr 39 14) [(52,vB true)] [] [] (lE h)
    ·refine aT h (fun c6 h=> ?_) (fun c6 h=> ?_)
     ·obtain rfl:=so h
      exact rq hC [] [4] [(4,vB false)] [] [] (qr eR)
     ·exact qk (rk hC [] [26,53] [(26,vI (wr (x5+1)))] [] [] (lE h))
   ·obtain rfl:=so h
    exact cT (rq hC [] [4] [(4,vB true)] [] [] (qr eR))
theorem sG{p}{x}{r}(h:dT n p x=some r):PQ G 132 [V.agg (bH p),V.agg (X5 x)] (vB r):=by
 unfold dT at h
 refine pq aO Tryz.func132 rfl fun w X hC=> ?_
 refine rq hC [.z (.b (true)),.z (.b (true))] [2,3,4] [(2,V.tp (bL p)),(3,V.tp (G5 x))] [] [] (vj h (fun x_=>aY [(4,vB x_)] [] []) (fun j1 h=> ?_) (fun x6 h=> ?_))
 ·
  obtain⟨x2,hx2,h⟩:=bd h
  refine aR h (fun c1 h=> ?_) (fun c1 h=> ?_)
  ·exact dk hC bC ([oN aD p.parts,oV (bF G hx2)]++rF 13 c1++sF 11) (fr 4 34) [(4,vB false)] [] [] (lE h)
  ·obtain⟨x3,hx3,x4,hx4,h⟩:=cP h
   refine aR h (fun c2 h=> ?_) (fun c2 h=> ?_)
   ·exact dk hC bC ([oN aD p.parts,oV (bF G hx2)]++rT 7 c1++[oR aD hx3]++rT 3 c1++[oN aG x3.body,oT c1,oT c1,oV (bF G hx4),oT c1]++rF 11 c2) (fr 4 34) [(4,vB false)] [] [] (lE h)
   ·obtain⟨x5,hx5,h⟩:=bd h
    exact dk hC bC ([oN aD p.parts,oV (bF G hx2)]++rT 7 c1++[oR aD hx3]++rT 3 c1++[oN aG x3.body,oT c1,oT c1,oV (bF G hx4),oT c1]++rT 5 c2++[oR aD hx3]++rT 5 c2++[oV (aCc G hx5),oT c2]) (fr 4 34) [(4,vB x5)] [] [] (lE h)
 ·obtain rfl:=so h
  exact qr eR
theorem pO{p}{x}{r}(h:eY n p x=some r):VQ G 73 [] [V.agg (bH p),V.agg (X5 x)] (V.tup [ms 0 1 1 rI r.1,vI r.2.1,vB r.2.2]) [ar 3 1 1 rI r.1]:=by
 unfold eY at h
 refine vq aO Tryz.func73 rfl fun w X β0 hC hg=> ?_
 refine rq hC [.z (.b (true)),.z (.b (true))] (fr 2 5) [(2,V.tp (bL p)),(3,V.tp (G5 x))] [] [] (qs (vj h (fun x_=>aY [(2,V.tp (bL p)),(3,V.tp (G5 x)),(17,vB x_)] [] []) (fun j1 h=> ?_) (fun x4 h=> ?_)))
 ·
  obtain⟨x2,hx2,h⟩:=bd h
  refine aR h (fun c1 h=> ?_) (fun c1 h=> ?_)
  ·obtain⟨x3,hx3,h⟩:=bd h
   exact rk hC ([oV (bI G hx2)]++rF 3 c1++[oV (sG G hx3),oF c1,oF c1]) (fr 9 9) [(17,vB (!x3))] [] [] (lE h)
  ·exact rk hC ([oV (bI G hx2)]++rT 5 c1) (fr 9 9) [(17,vB true)] [] [] (lE h)
 ·refine aT h (fun c2 h=> ?_) (fun c2 h=> ?_)
  ·obtain rfl:=so h
   exact rq hC [] [4,5,6] [(4,V.t T.nilS),(5,vI 0),(6,vB false)] [] [] (qw (lk hC [.grow 4 0 3] [4] [(4,ms 0 1 1 rI [])] [(0,some (ar 3 1 1 rI []))] [(0,true)]) (qr eW))
  ·refine qk ?_
   obtain⟨x5,hx5,h⟩:=bd h
   obtain rfl:=so h
   exact rq hC [oC [] [20] (uZ G hx5)] [7,8,18,19,20,21,22,23] [(7,ms 20 1 1 rI x5.1),(8,vI x5.2)] [(20,some (ar 3 1 1 rI x5.1))] [(20,true)] (rq hC [] [4,5,6,24,25] [(4,ms 20 1 1 rI x5.1),(5,vI x5.2),(6,vB true)] [] [] (qw (lk hC [.ren 4 20 0] [4] [(4,ms 0 1 1 rI x5.1)] [(0,some (ar 3 1 1 rI x5.1)),(20,none)] [(0,true)]) (qr eW)))
theorem iM{p}{r}(h:cV n p=some r):VQ G 43 [] [V.agg (bH p)] (ms 0 1 3 bK r) [ar 94 1 3 bK r]:=by
 unfold cV at h
 refine vq aO Tryz.func43 rfl fun w X β0 hC hg=> ?_
 refine rq hC [.z (.b (true))] [1,2] [(1,V.tp (bL p))] [] [] ?_
 obtain⟨x1,hx1,h⟩:=bd h
 refine rq hC [oC [] [20] (lO G hx1)] (fr 3 7) [(3,ms 20 1 3 bK x1.1),(4,vB x1.2)] [(20,some (ar 94 1 3 bK x1.1))] [(20,true)] (qs (rq hC [] [10,11] [(11,vB (!x1.2))] [] [] (aT h (fun c1 h=> ?_) (fun c1 h=> ?_))))
 ·obtain rfl:=so h
  exact rq hC [] [2] [(2,V.t T.nilS)] [] [] (qw (lk hC [.grow 2 0 94] [2] [(2,ms 0 1 3 bK [])] [(0,some (ar 94 1 3 bK []))] [(0,true)]) (qr eW))
 ·obtain rfl:=so h
  exact qk (rq hC [] [2,12] [(2,ms 20 1 3 bK x1.1)] [] [] (qw (lk hC [.ren 2 20 0] [2] [(2,ms 0 1 3 bK x1.1)] [(0,some (ar 94 1 3 bK x1.1)),(20,none)] [(0,true)]) (qr eW)))
theorem N9{a}{b}{r}(h:nZ n a b=some r):PQ G 44 [vM rI a,vM rI b] (vB r):=by
 unfold nZ at h
 refine pq aO Tryz.func44 rfl fun w X hC=> ?_
 refine rq hC [] [4] [] [] [] (qs (rq hC [oN rI a,oN rI b] (fr 6 5) [(10,vB (!decide ((a.length:Int)=(b.length:Int))))] [] [] (aT h (fun c1 h=> ?_) (fun c1 h=> ?_))))
 ·obtain rfl:=so h
  exact rq hC [] [4] [(4,vB false)] [] [] (qr eR)
 ·refine qk (qs (rq hC [] [5] [(5,vI 0)] [] [] (qb (jP h (fun x_=>aY [(0,vM rI a),(1,vM rI b),(5,vI x_)] [] []) lS ?_))))
  rintro again2 x1 h
  refine qs (rq hC [oN rI a] (fr 11 4) [(14,vB (decide (x1<(a.length:Int))))] [] [] (aT h (fun c2 h=> ?_) (fun c2 h=> ?_)))
  ·refine qk (qs (qb (qs ?_)))
   obtain⟨x3,hx3,x4,hx4,h⟩:=cP h
   refine dk hC bC [oR rI hx3,oR rI hx4] (fr 17 9) [(25,vB (!decide (x3=x4)))] [] [] (aT h (fun c3 h=> ?_) (fun c3 h=> ?_))
   ·obtain rfl:=so h
    exact rq hC [] [4] [(4,vB false)] [] [] (qr eR)
   ·exact qk (rk hC [] [5,15,16] [(5,vI (wr (x1+1)))] [] [] (lE h))
  ·obtain rfl:=so h
   exact cT (rq hC [] [4] [(4,vB true)] [] [] (qr eR))
theorem xZ{p}{q}{r}(h:lP n p q=some r):PQ G 19 [V.agg (bH p),V.agg (bH q)] (vB r):=by
 unfold lP at h
 refine pq aO Tryz.func19 rfl fun w X hC=> ?_
 refine rq hC [.z (.b (true)),.z (.b (true))] [2,3,4] [(2,V.tp (bL p)),(3,V.tp (bL q))] [] [] ?_
 obtain⟨x1,hx1,h⟩:=bd h
 refine rq hC [oC [] [20] (iM G hx1)] [5,14,15] [(5,ms 20 1 3 bK x1)] [(20,some (ar 94 1 3 bK x1))] [(20,true)] ?_
 obtain⟨x2,hx2,h⟩:=bd h
 refine rq hC [oC [] [21] (iM G hx2)] [6,16,17] [(6,ms 21 1 3 bK x2)] [(21,some (ar 94 1 3 bK x2))] [(21,true)] (qs (rq hC [oN bK x1,oN bK x2] (fr 18 5) [(22,vB (!decide ((x1.length:Int)=(x2.length:Int))))] [] [] (aT h (fun c1 h=> ?_) (fun c1 h=> ?_))))
 ·obtain rfl:=so h
  exact rq hC [] [4] [(4,vB false)] [] [] (qr eR)
 ·refine qk (qs (rq hC [] [7] [(7,vI 0)] [] [] (qb (jP h (fun x_=>aY [(2,V.tp (bL p)),(3,V.tp (bL q)),(5,ms 20 1 3 bK x1),(6,ms 21 1 3 bK x2),(7,vI x_)] [(20,ar 94 1 3 bK x1),(21,ar 94 1 3 bK x2)] [20,21]) lS ?_))))
  rintro again4 x3 h
  refine qs (rq hC [oN bK x1] (fr 23 4) [(26,vB (decide (x3<(x1.length:Int))))] [] [] (aT h (fun c2 h=> ?_) (fun c2 h=> ?_)))
  ·refine qk (qs (qb (qs ?_)))
   obtain⟨x5,hx5,x6,hx6,h⟩:=cP h
   refine dk hC bC [oQ (lM bK hx5),oX bK hx5,oC [] [22] (pO G hx6)] [8,9,10,29,30,31,32,33,34,35,36,37,38] [(8,ms 22 1 1 rI x6.1),(9,vI x6.2.1)] [(22,some (ar 3 1 1 rI x6.1))] [(22,true)] (qs ?_)
   obtain⟨x7,hx7,x8,hx8,h⟩:=cP h
   refine dk hC bC [oQ (lM bK hx7),oX bK hx7,oC [] [23] (pO G hx8)] [11,12,13,39,40,41,42,43,44,45,46,47,48] [(11,ms 23 1 1 rI x8.1),(12,vI x8.2.1)] [(23,some (ar 3 1 1 rI x8.1))] [(23,true)] (vj h (fun x_=>aY [(2,V.tp (bL p)),(3,V.tp (bL q)),(5,ms 20 1 3 bK x1),(6,ms 21 1 3 bK x2),(7,vI x3),(57,vB x_)] [(20,ar 94 1 3 bK x1),(21,ar 94 1 3 bK x2),(22,ar 3 1 1 rI x6.1),(23,ar 3 1 1 rI x8.1)] [20,21,22,23]) (fun j9 h=> ?_) (fun x11 h=> ?_))
   ·
    refine aR h (fun c3 h=> ?_) (fun c3 h=> ?_)
    ·obtain⟨x10,hx10,h⟩:=bd h
     exact rk hC (rF 3 c3++[.z (.b (true)),oV (N9 G hx10),oF c3,oF c3]) (fr 49 9) [(57,vB (!x10))] [] [] (lE h)
    ·exact rk hC (rT 5 c3) (fr 49 9) [(57,vB true)] [] [] (lE h)
   ·refine aT h (fun c4 h=> ?_) (fun c4 h=> ?_)
    ·obtain rfl:=so h
     exact rq hC [] [4] [(4,vB false)] [] [] (qr eR)
    ·exact qk (rk hC [] [7,27,28] [(7,vI (wr (x3+1)))] [] [] (lE h))
  ·obtain rfl:=so h
   exact cT (rq hC [] [4] [(4,vB true)] [] [] (qr eR))
theorem lF{p}{r}(h:d6 n p=some r):PQ G 115 [V.agg (bH p)] (vI r):=by
 unfold d6 at h
 refine pq aO Tryz.func115 rfl fun w X hC=> ?_
 refine rq hC [.z (.b (true))] [1,2] [(1,V.tp (bL p))] [] [] (rq hC [] [3] [(3,vI 0)] [] [] (qs (rq hC [oN aJ p.arrays] (fr 6 4) [(7,vM aJ p.arrays),(8,vI (p.arrays.length:Int)),(9,vI 0)] [] [] (qb (jP h (fun x_=>aY [(3,vI x_.1),(7,vM aJ p.arrays),(8,vI (p.arrays.length:Int)),(9,vI x_.2)] [] []) lS ?_)))))
 rintro again3 ⟨x1,x2⟩ h
 refine rq hC [] [10] [(10,vB (decide (x2<(p.arrays.length:Int))))] [] [] (qs (aT h (fun c1 h=> ?_) (fun c1 h=> ?_)))
 ·refine qk (qs (qb ?_))
  obtain⟨x4,hx4,h⟩:=bd h
  refine rq hC [oR aJ hx4,.z (.nat 20)] [5,11,12] [(5,V.ref 20 0)] [(20,sc [vS x4.name,vM rI x4.dims])] [(20,true)] ?_
  obtain⟨x5,hx5,h⟩:=bd h
  exact rk hC [oV (uC G hx5)] [3,13,14,15,16] [(3,vI (wr (x1+x5)))] [] [] (rk hC [] [9,17] [(9,vI (wr (x2+1)))] [] [] (lE h))
 ·obtain rfl:=so h
  exact cT (rq hC [] [2,18] [(2,vI x1)] [] [] (qr eR))
theorem Q8{p}{r}(h:kZ n p=some r):PQ G 74 [V.agg (bH p)] (vI r):=by
 unfold kZ at h
 refine pq aO Tryz.func74 rfl fun w X hC=> ?_
 refine rq hC [.z (.b (true))] [1,2] [(1,V.tp (bL p))] [] [] (qs ?_)
 obtain⟨x1,hx1,h⟩:=bd h
 refine rq hC [oV (bI G hx1)] [3,4,5] [(5,vB (!x1))] [] [] (aT h (fun c1 h=> ?_) (fun c1 h=> ?_))
 ·obtain rfl:=so h
  exact rq hC [] [2] [(2,vI 0)] [] [] (qr eR)
 ·refine qk ?_
  obtain⟨x2,hx2,h⟩:=bd h
  obtain rfl:=so h
  exact rq hC [oV (lF G hx2)] [2,6,7] [(2,vI x2)] [] [] (qr eR)
theorem yM(G:GS)(n:Nat)(n_a0:Int){r:Bool}(h:eX n n_a0=some r):PQ G 193 [vI n_a0] (vB r):=by
 unfold eX at h
 refine pq aO Tryz.func193 rfl fun w X hC=> ?_
 refine rq hC [] [2] [] [] [] ?_
 obtain⟨x1,hx1,h⟩:=bd h
 obtain rfl:=so h
 exact rq hC [oV (bF G hx1)] (fr 2 4) [(2,vB (!x1))] [] [] (qr eR)
theorem D5{p}{m}{r}(h:jL n p m=some r):PQ G 133 [V.agg (bH p),vM rI m] (vB r):=by
 unfold jL at h
 refine pq aO Tryz.func133 rfl fun w X hC=> ?_
 refine rq hC [.z (.b (true))] [2,4] [(2,V.tp (bL p))] [] [] (vj h (fun x_=>aY [(4,vB x_)] [] []) (fun j1 h=> ?_) (fun x5 h=> ?_))
 ·
  obtain⟨x2,hx2,h⟩:=bd h
  refine aR h (fun c1 h=> ?_) (fun c1 h=> ?_)
  ·exact rk hC ([oV (bI G hx2)]++rF 6 c1++sF 4) (fr 4 15) [(4,vB false)] [] [] (lE h)
  ·obtain⟨x3,hx3,h⟩:=bd h
   refine aR h (fun c2 h=> ?_) (fun c2 h=> ?_)
   ·exact rk hC ([oV (bI G hx2),oT c1,oT c1,oN rI m,oT c1,oT c1,oV (lF G hx3),oT c1,oT c1]++rF 4 c2) (fr 4 15) [(4,vB false)] [] [] (lE h)
   ·obtain⟨x4,hx4,h⟩:=bd h
    exact rk hC [oV (bI G hx2),oT c1,oT c1,oN rI m,oT c1,oT c1,oV (lF G hx3),oT c1,oT c1,oT c2,oT c2,oV (dU G n m 193 (fun q0=>eX n q0) (fun q0 r h=>yM G n q0 h) hx4),oT c2,oT c2] (fr 4 15) [(4,vB (!x4))] [] [] (lE h)
 ·obtain rfl:=so h
  exact qr eR
theorem sD{n_a0}{r}(h:mO n n_a0=some r):PQ G 239 [vI n_a0] (vI r):=by
 unfold mO at h
 refine pq aO Tryz.func239 rfl fun w X hC=> ?_
 obtain rfl:=so h
 exact rq hC [] [2] [] [] [] (rq hC [oQ (show(1000:Int)≠0 by decide),oQ (show(1000:Int)≠0 by decide)] (fr 2 6) [(2,vI (Int.tmod (wr ((wr ((Int.tmod n_a0 1000)+999))+1)) 1000))] [] [] (qr eR))
theorem yI(G:GS): ∀(n:Nat) (p:Prog) (m:List Int) (e:Expr) (point:List Int) {r:Int} (h:i_Program_value n p m e point=some r),PQ G 194 [V.agg (bH p),vM rI m,V.agg (cQ e),vM rI point] (vI r):=by
 intro n
 induction n with
 |zero=>intro p m e point r h;rw [i_Program_value.eq_def] at h;cases h
 |succ n ih=>
  intro p m e point r h
  rw [i_Program_value.eq_def] at h;dsimp only at h
  refine pq aO Tryz.func194 rfl fun w X hC=> ?_
  refine rq hC [.z (.b (true)),.z (.b (true))] [4,6,8] [(4,V.tp (bL p)),(6,V.tp (fA e))] [] [] (qs (rq hC [] [11,12] [(12,vI e.kind)] [] [] (qb (rq hC [] [13,14] [(13,vB (decide (e.kind=1)))] [] [] (aT h (fun c1 h=> ?_) (fun c1 h=> ?_))))))
  ·obtain rfl:=so h
   exact rq hC [] [8,15,16] [(8,vI e.num)] [] [] (qr eR)
  ·refine rq hC [] [17,18] [(17,vB (decide (e.kind=2)))] [] [] (aT h (fun c2 h=> ?_) (fun c2 h=> ?_))
   ·obtain⟨x1,hx1,x2,hx2,h⟩:=cP h
    obtain rfl:=so h
    exact rq hC [oV (e9 G hx1),oV (sD G hx2)] [8,19,20,21,22,23] [(8,vI x2)] [] [] (qr eR)
   ·refine rq hC [] [24,25] [(24,vB (decide (e.kind=3)))] [] [] (aT h (fun c3 h=> ?_) (fun c3 h=> ?_))
    ·obtain⟨x3,hx3,x4,hx4,h⟩:=cP h
     obtain rfl:=so h
     exact rq hC [oV (dN G hx3),oR rI hx4] [8,26,27,28,29,30,31,32,33] [(8,vI x4)] [] [] (qr eR)
    ·refine qk (qs ?_)
     obtain⟨x5,hx5,x6,hx6,x7,hx7,h⟩:=kG h
     obtain⟨x8,hx8,h⟩:=bd h
     refine dk hC bC [.z (.row (d5 x5)),oQ (eS aI hx5 (cM x5)),oV (ih p m x5 point hx6),.z (.row (d5 x7)),oQ (eS aI hx7 (cM x7)),oV (ih p m x7 point hx8)] [9,10,34,35,36,37,38,39,40,41,42,43,44,45,46,47,48,49] [(9,vI x6),(10,vI x8)] [] [] (qs (rq hC [] [50,51] [(51,vI e.kind)] [] [] (qb (rq hC [] [52,53] [(52,vB (decide (e.kind=4)))] [] [] (aT h (fun c4 h=> ?_) (fun c4 h=> ?_))))))
     ·obtain⟨x9,hx9,h⟩:=bd h
      obtain rfl:=so h
      exact rq hC [oV (sD G hx9)] [8,54,55,56,57] [(8,vI x9)] [] [] (qr eR)
     ·refine rq hC [] [58,59] [(58,vB (decide (e.kind=5)))] [] [] (aT h (fun c5 h=> ?_) (fun c5 h=> ?_))
      ·obtain⟨x10,hx10,h⟩:=bd h
       obtain rfl:=so h
       exact rq hC [oV (sD G hx10)] [8,60,61,62,63] [(8,vI x10)] [] [] (qr eR)
      ·refine qk ?_
       obtain⟨x11,hx11,h⟩:=bd h
       obtain rfl:=so h
       exact rq hC [oV (sD G hx11)] [8,64,65,66,67] [(8,vI x11)] [] [] (qr eR)
theorem Q5{p}{m}(mG:Nat){x}{r}(h:kW n p m x=some r):VQ G 135 [ar 3 mG 1 rI m] [V.agg (bH p),ms 0 mG 1 rI m,V.agg (X5 x)] (V.tup []) [ar 3 mG 1 rI r]:=by
 unfold kW at h
 refine vq aO Tryz.func135 rfl fun w X β0 hC hg=> ?_
 refine rq hC [.z (.b (true)),.z (.b (true))] [3,5] [(3,V.tp (bL p)),(5,V.tp (G5 x))] [] [] ?_
 obtain⟨x1,hx1,h⟩:=bd h
 refine rq hC [oV (qY G hx1),.z (.nat 20)] (fr 6 4) [(6,V.ref 20 0)] [(20,some (E.cells (cO x1)))] [(20,true)] ?_
 obtain⟨x2,hx2,x3,hx3,x4,hx4,h⟩:=kG h
 obtain⟨x5,hx5,h⟩:=bd h
 obtain rfl:=so h
 exact dk hC bC [oV (dN G hx2),.z (.b (true)),oV (yI G n p m x1.value x.point hx3),oQ (lM rI hx4),oX rI hx4,.z (.rows (List.map rI x5)),oQ (str rI hx5)] [1,10,11,12,13,14,15,16,17,18,19,20,21,22,23,24] [] [(0,some (ar 3 mG 1 rI x5))] [] eW
theorem t8{p}{m}{r}(h:fI n p m=some r):VQ G 75 [] [V.agg (bH p),vM rI m] (V.tup [ms 0 1 1 rI r.1,vB r.2]) [ar 3 1 1 rI r.1]:=by
 unfold fI at h
 refine vq aO Tryz.func75 rfl fun w X β0 hC hg=> ?_
 refine rq hC [.z (.b (true))] [2,4,5] [(2,V.tp (bL p))] [] [] (qs ?_)
 obtain⟨x1,hx1,h⟩:=bd h
 refine rq hC [oV (D5 G hx1)] (fr 9 4) [(12,vB (!x1))] [] [] (aT h (fun c1 h=> ?_) (fun c1 h=> ?_))
 ·obtain rfl:=so h
  exact rq hC [] [4,5] [(4,V.t T.nilS),(5,vB false)] [] [] (qw (lk hC [.grow 4 0 3] [4] [(4,ms 0 1 1 rI [])] [(0,some (ar 3 1 1 rI []))] [(0,true)]) (qr eW))
 ·refine qk ?_
  obtain⟨x2,hx2,h⟩:=bd h
  refine rq hC [oC [] [20] (G.clone m hx2)] [6,13,14] [(6,ms 20 1 1 rI x2)] [(20,some (ar 3 1 1 rI x2))] [(20,true)] (qs ?_)
  obtain⟨x3,hx3,h⟩:=bd h
  refine rq hC [oC [] [21] (iM G hx3),oN bK x3] (fr 15 4) [(16,ms 21 1 3 bK x3),(17,vI (x3.length:Int)),(18,vI 0)] [(21,some (ar 94 1 3 bK x3))] [(21,true)] (qb (bD (γ:=Nat) h (fun x_ g_=>aY [(2,V.tp (bL p)),(6,ms 20 g_ 1 rI x_.1),(16,ms 21 1 3 bK x3),(17,vI (x3.length:Int)),(18,vI x_.2)] [(20,ar 3 g_ 1 rI x_.1),(21,ar 94 1 3 bK x3)] [20,21]) 1 (lS) ?_))
  rintro again7 ⟨x4,x5⟩ g6 h
  refine rq hC [] [19] [(19,vB (decide (x5<(x3.length:Int))))] [] [] (qs (aT h (fun c2 h=> ?_) (fun c2 h=> ?_)))
  ·refine qk (qs (qb ?_))
   obtain⟨x8,hx8,h⟩:=bd h
   refine rq hC [oQ (lM bK hx8),oX bK hx8,.z (.nat 22)] [8,20,21] [(8,V.ref 22 0)] [(22,some (E.cells (X5 x8)))] [(22,true)] ?_
   obtain⟨x9,hx9,x10,hx10,h⟩:=cP h
   exact rk hC [oC [20] [] (Q5 G g6 hx9),.z (.len 6 (List.map rI x9).length),oQ (q7 rI hx10)] [6,22,23,24,25] [(6,ms 20 g6 1 rI x9)] [(20,some (ar 3 g6 1 rI x9))] [(20,true)] (rk hC [] [18,26] [(18,vI (wr (x5+1)))] [] [] ⟨(x9,wr (x5+1)),g6,h,lS⟩)
  ·obtain rfl:=so h
   exact cT (rq hC [] [4,5,27] [(4,ms 20 g6 1 rI x4),(5,vB true)] [] [] (qw (lk hC [.ren 4 20 0] [4] [(4,ms 0 1 1 rI x4)] [(0,some (ar 3 1 1 rI x4)),(20,none)] [(0,true)]) (qr eW)))
theorem aBQ{p}{q}{seed}{r}(h:nO n p q seed=some r):PQ G 20 [V.agg (bH p),V.agg (bH q),vI seed] (vB r):=by
 unfold nO at h
 refine pq aO Tryz.func20 rfl fun w X hC=> ?_
 refine rq hC [.z (.b (true)),.z (.b (true))] [3,4,6] [(3,V.tp (bL p)),(4,V.tp (bL q))] [] [] ?_
 obtain⟨x1,hx1,x2,hx2,h⟩:=cP h
 refine rq hC [oV (Q8 G hx1),.z (.nat 20),oA (aGd rI hx2),oQ (E0 hx2).1] [7,13,14,15] [(7,ms 20 1 1 rI x2)] [(20,some (ar 3 1 1 rI x2))] [(20,true)] (qs (rq hC [] [8] [(8,vI 0)] [] [] (qb (bD (γ:=Nat) h (fun x_ g_=>aY [(2,vI seed),(3,V.tp (bL p)),(4,V.tp (bL q)),(7,ms 20 g_ 1 rI x_.1),(8,vI x_.2)] [(20,ar 3 g_ 1 rI x_.1)] [20]) 1 (lS) ?_))))
 rintro again6 ⟨x3,x4⟩ g5 h
 refine qs (rq hC [oN rI x3] (fr 16 4) [(19,vB (decide (x4<(x3.length:Int))))] [] [] (aT h (fun c1 h=> ?_) (fun c1 h=> ?_)))
 ·refine qk (qs (qb ?_))
  obtain⟨x7,hx7,x8,hx8,h⟩:=cP h
  exact rk hC [oQ (show(1000:Int)≠0 by decide),oQ (lM rI hx7),oX rI hx7,.z (.rows (List.map rI x8)),.z (.len 7 (List.map rI x8).length),oQ (str rI hx8),oQ (kH rI hx8)] [7,22,23,24,25,26,27,28,29,30,31] [(7,ms 20 g5 1 rI x8)] [(20,some (ar 3 g5 1 rI x8))] [] (rk hC [] [8,20,21] [(8,vI (wr (x4+1)))] [] [] ⟨(x8,wr (x4+1)),g5,h,lS⟩)
 ·refine cT ?_
  obtain⟨x9,hx9,h⟩:=bd h
  refine rq hC [.z (.at 6),.z (.fz 20 [7,34] []),oC [] [21] (t8 G hx9)] [7,9,10,32,33,34,35,36,37] [(7,vM rI x3),(9,ms 21 1 1 rI x9.1),(10,vB x9.2)] [(20,none),(21,some (ar 3 1 1 rI x9.1))] [(21,true)] ?_
  obtain⟨x10,hx10,h⟩:=bd h
  refine rq hC [oC [] [22] (t8 G hx10)] [11,12,38,39,40,41,42,43] [(11,ms 22 1 1 rI x10.1),(12,vB x10.2)] [(22,some (ar 3 1 1 rI x10.1))] [(22,true)] (vj h (fun x_=>aY [(6,vB x_)] [(21,ar 3 1 1 rI x9.1),(22,ar 3 1 1 rI x10.1)] [20,21,22]) (fun j11 h=> ?_) (fun x13 h=> ?_))
  ·
   refine aR h (fun c2 h=> ?_) (fun c2 h=> ?_)
   ·exact rk hC ([oF c2,oF c2]++sF 4) [6,44,45,46,47,48,49,50,51,52] [(6,vB false)] [] [] (lE h)
   ·refine aR h (fun c3 h=> ?_) (fun c3 h=> ?_)
    ·exact rk hC ([oT c2,oT c2]++rF 4 c3) [6,44,45,46,47,48,49,50,51,52] [(6,vB false)] [] [] (lE h)
    ·obtain⟨x12,hx12,h⟩:=bd h
     exact rk hC ([oT c2,oT c2]++rT 3 c3++[.z (.b (true)),oV (N9 G hx12),oT c3]) [6,44,45,46,47,48,49,50,51,52] [(6,vB x12)] [] [] (lE h)
  ·obtain rfl:=so h
   exact qr eR
theorem zY{code}{r}(h:kP n code=some r):PQ G 21 [vM rY code] (V.tup [V.agg (bH r.1),vI r.2.1,vI r.2.2.1,vI r.2.2.2]):=by
 unfold kP at h
 refine pq aO Tryz.func21 rfl fun w X hC=> ?_
 refine rq hC [.z (.nat 20)] (fr 2 4) [(2,V.ref 20 0)] [(20,sc [V.t T.nilS,V.t T.nilS])] [(20,true)] ?_
 obtain⟨x1,hx1,x2,hx2,h⟩:=cP h
 obtain rfl:=so h
 exact rq hC [oC [] [21] (aB3 G hx1),oC [21] [] (aDq G hx2)] (fr 3 10) [(3,vI x2.2.1),(4,vI x2.2.2.1),(5,vI x2.2.2.2.1)] [(21,sR x2.2.2.2.2),(20,some (E.cells (bH x2.1)))] [(21,true),(21,true)] (qr eR)
theorem Q4(G:GS)(n:Nat)(a:Affine)(c0__a1:Int)(c1__a2:Int){r:Affine}(h:iX n a c0__a1 c1__a2=some r):PQ G 76 [V.agg (aK a),V.tp [T.int .i64 c0__a1],V.tp [T.int .i64 c1__a2]] (V.agg (aK r)):=by
 unfold iX at h
 refine pq aO Tryz.func76 rfl fun w X hC=> ?_
 refine rq hC [.z (.b (true)),.z (.nat 20)] [3,4] [(3,V.tp (aQ a)),(4,V.ref 20 0)] [(20,sc [V.t T.nilS,vI 0])] [(20,true)] (qs ?_)
 obtain⟨x1,hx1,x2,hx2,h⟩:=cP h
 obtain rfl:=so h
 exact dk hC bC [oC [] [21] (sC G hx1),.z (.at 2),.z (.fz 21 [8] []),oC [] [22] (aAH G hx2)] (fr 5 5) [] [(21,none),(22,some (ar 3 1 1 rI x2.coefs)),(20,sc [ms 22 1 1 rI x2.coefs,vI x2.const])] [(21,true),(22,true)] (qw (lk hC [.fz 22 [] [20]] [] [] [(20,some (E.cells (aK x2))),(22,none)] []) (qr eR))
theorem Q3(G:GS)(n:Nat)(a:Affine)(c0__a1:Int)(c1__a2:Affine){r:Affine}(h:gI n a c0__a1 c1__a2=some r):PQ G 77 [V.agg (aK a),V.tp [T.int .i64 c0__a1],V.tp (aQ c1__a2)] (V.agg (aK r)):=by
 unfold gI at h
 refine pq aO Tryz.func77 rfl fun w X hC=> ?_
 refine rq hC [.z (.b (true)),.z (.nat 20)] [3,4] [(3,V.tp (aQ a)),(4,V.ref 20 0)] [(20,sc [V.t T.nilS,vI 0])] [(20,true)] ?_
 obtain⟨x1,hx1,h⟩:=bd h
 obtain rfl:=so h
 exact rq hC [oC [] [21] (aFc G hx1)] (fr 5 5) [] [(21,some (ar 3 1 1 rI x1.coefs)),(20,sc [ms 21 1 1 rI x1.coefs,vI x1.const])] [(21,true)] (qw (lk hC [.fz 21 [] [20]] [] [] [(20,some (E.cells (aK x1))),(21,none)] []) (qr eR))
theorem aAN{p}{part}{loop}{by_}{r}(h:oW n p part loop by_=some r):PQ G 22 [V.agg (bH p),vI part,vI loop,vI by_] (V.tup [V.agg (bH r.1),vB r.2]):=by
 unfold oW at h
 refine pq aO Tryz.func22 rfl fun w X hC=> ?_
 refine rq hC [.z (.b (true)),.z (.b (true)),.z (.b (true)),.z (.nat 20)] [4,6,7,8,9] [(4,V.tp (bL p)),(6,V.tp [T.int .i64 loop]),(7,V.tp [T.int .i64 by_]),(8,V.ref 20 0)] [(20,sc [V.t T.nilS,V.t T.nilS])] [(20,true)] (qs ?_)
 obtain⟨x1,hx1,h⟩:=bd h
 refine aR h (fun c1 h=> ?_) (fun c1 h=> ?_)
 ·refine rk hC [oV (aCb G n p part loop hx1 c1),.z (.nat 21)] [10,11,12,14,15,16,17,18,19,20,21] [(10,V.ref 21 0),(11,V.t T.nilP),(12,vB false)] [(21,sc [vM aJ [],vM aD []])] [(21,true)] (qs (qs (dk hC bC (sT 16) (fr 22 21) [(42,vB true)] [] [] (F8 (b:=true) (by kernel_rfl) (fun c2=> ?_) (fun c2=>by cases c2)))))
  obtain rfl:=so h
  exact rq hC [] [9,43] [(9,vB false)] [(20,sc [V.t T.nilS,V.t T.nilS])] [] (qr eR)
 ·refine rk hC [oC [] [21,22] (aCa G n p part loop hx1 c1),.z (.nat 23)] [10,11,12,14,15,16,17,18,19,20,21] [(10,V.ref 23 0),(11,V.eref 22 1 2 (0+Int.toNat part) 0),(12,vB true)] [(21,some (ar 76 1 2 aJ x1.1.arrays)),(22,some (E.tree gE 0 1 (List.map aD x1.1.parts) [])),(23,sc [ms 21 1 2 aJ x1.1.arrays,ms 22 1 2 aD x1.1.parts])] [(21,true),(22,true),(23,true)] (qs (vj h (fun x_=>aY [(6,V.tp [T.int .i64 loop]),(7,V.tp [T.int .i64 by_]),(8,V.ref 20 0),(10,V.ref 23 0),(11,V.eref 22 1 2 (0+Int.toNat part) 0),(42,vB x_)] [(20,E.cells [V.t T.nilS,V.t T.nilS]),(21,ar 76 1 2 aJ x1.1.arrays),(22,E.tree gE 0 1 (List.map aD x1.1.parts) []),(23,E.cells [ms 21 1 2 aJ x1.1.arrays,ms 22 1 2 aD x1.1.parts])] [20,21,22,23]) (fun j2 h=> ?_) (fun x4 h=> ?_)))
  ·
   refine aR h (fun c2 h=> ?_) (fun c2 h=> ?_)
   ·obtain⟨x5,hx5,h⟩:=bd h
    refine qw (zG hC [.foc 22 24 (0+Int.toNat part) 0 (aD x5)] [] [] [(22,some (E.tree gE 0 1 (List.map aD x1.1.parts) [((0+Int.toNat part),0,ms 24 1 2 aC x5.nest)])),(24,some (E.tree gE 1 1 (List.map aC x5.nest) []))] [(24,true)] (a1 (wE aD hx5)) (by kernel_rfl)) (aR h (fun c4 h=> ?_) (fun c4 h=> ?_))
    ·obtain⟨x3,hx3,h⟩:=bd h
     exact dk hC bC ([eF,eF,eF]++rF 6 c2++[oX aD hx5,oF c2,oN aC x5.nest,oF c2,oF c2,oF c4,oF c4,oV (aDD G hx3),oF c4,oF c4]) (fr 22 21) [(42,vB (!x3))] [] [] ⟨!x3,h,S.le.trans (zG hC [.unf 22 24 (aD x5) (List.map aD x1.1.parts)] [] [] [(24,none),(22,some (E.tree gE 0 1 (List.map aD x1.1.parts) []))] [] (a4 (Eq.refl (List.map aC x5.nest).length) (Eq.refl gE) (wE aD hx5) (aBi aD hx5 rfl)) (by kernel_rfl)) (lS)⟩
    ·exact dk hC bC ([eF,eF,eF]++rF 6 c2++[oX aD hx5,oF c2,oN aC x5.nest,oF c2,oF c2]++rT 4 c4) (fr 22 21) [(42,vB true)] [] [] ⟨true,h,S.le.trans (zG hC [.unf 22 24 (aD x5) (List.map aD x1.1.parts)] [] [] [(24,none),(22,some (E.tree gE 0 1 (List.map aD x1.1.parts) []))] [] (a4 (Eq.refl (List.map aC x5.nest).length) (Eq.refl gE) (wE aD hx5) (aBi aD hx5 rfl)) (by kernel_rfl)) (lS)⟩
   ·exact dk hC bC ([eF,eF,eF]++rT 9 c2++sT 4) (fr 22 21) [(42,vB true)] [] [] (lE h)
  ·refine aT h (fun c3 h=> ?_) (fun c3 h=> ?_)
   ·obtain rfl:=so h
    exact rq hC [] [9,43] [(9,vB false)] [(20,sc [V.t T.nilS,V.t T.nilS])] [] (qr eR)
   ·refine qk (qs ?_)
    obtain⟨x5,hx5,x6,hx6,x7,hx7,h⟩:=kG h
    obtain⟨x8,hx8,x10,hx10,h⟩:=cP h
    refine dk hC bC [.z (.foc 22 25 (0+Int.toNat part) 0 (aD x5)),oX aD hx5,oQ (wE aD hx5),oQ (lM aC hx6),oC [25] [] (mS G n x5.nest (wr (loop+1)) x6 hx6 1 76 [T.int .i64 by_] [T.int .i64 loop] (fun q0=>iX n q0 by_ loop) (fun q0 r h=>Q4 G n q0 by_ loop h) hx7 hx8)] (fr 44 9) [] [(22,some (E.tree gE 0 1 (List.map aD x1.1.parts) [((0+Int.toNat part),0,ms 25 1 2 aC x5.nest)])),(25,some (E.tree gE 1 1 (List.map aC x8) []))] [(25,true),(25,true)] (qw (zG hC [.unf 22 25 (aD x5) (List.map aD x10)] [] [] [(25,none),(22,some (E.tree gE 0 1 (List.map aD x10) []))] [] (a4 (kH aC hx8) (Eq.refl gE) (wE aD hx5) (R4 aD hx10 rfl)) (by kernel_rfl)) (qs ?_))
    obtain⟨y1,hy1,h⟩:=bd h
    obtain⟨y2,hy2,h⟩:=bd h
    obtain⟨x9,hx9,h⟩:=bd h
    refine dk hC bC [oC [] [26] (sC G hy1),oC [] [27] (sC G hy2),.z (.at 3),.z (.fz 26 [55] []),.z (.at 3),.z (.fz 27 [59] []),oC [] [28] (aAH G hx9),.z (.nat 29)] [13,53,54,55,56,57,58,59,60] [(13,V.ref 29 0)] [(26,none),(27,none),(28,some (ar 3 1 1 rI x9.coefs)),(29,sc [ms 28 1 1 rI x9.coefs,vI x9.const])] [(26,true),(27,true),(28,true),(29,true)] (qw (lk hC [.fz 28 [] [29],.fp 29 [13]] [13] [(13,V.tp (aQ x9))] [(28,none),(29,none)] []) ?_)
    obtain⟨x11,hx11,x12,hx12,h⟩:=cP h
    refine rq hC [oC [22] [] (uB G n x10 part (⟨x8,x5.body⟩:Part) (aJP hx10) 1 (wr (loop+2)) 77 [T.int .i64 loop] (aQ x9) (fun q0=>gI n q0 loop x9) (fun q0 r h=>Q3 G n q0 loop x9 h) hx11 hx12)] (fr 61 5) [] [(22,some (E.tree gE 0 1 (List.map aD x12) []))] [(22,true)] (qw (zG hC [.shd 22,.lenc 23 1 (List.map aD x12).length,.fz 21 [] [23],.fz 22 [] [23]] [] [] [(21,none),(22,none),(23,sc [vM aJ x1.1.arrays,vM aD x12])] [] (a1 ((kH aD hx10).trans (kH aD hx12))) (by kernel_rfl)) ?_)
    obtain⟨x13,hx13,h⟩:=bd h
    obtain rfl:=so h
    exact rq hC [oV (aAI G hx13)] [9,66,67,68,69] [(9,vB x13.2)] [(20,some (E.cells (bH x13.1)))] [] (qr eR)
theorem aAG{p}{part}{loop}{factor}{r}(h:oJ n p part loop factor=some r):PQ G 23 [V.agg (bH p),vI part,vI loop,vI factor] (V.tup [V.agg (bH r.1),vB r.2]):=by
 unfold oJ at h
 refine pq aO Tryz.func23 rfl fun w X hC=> ?_
 refine rq hC [.z (.nat 20),.z (.nat 21)] [4,8,9] [(4,V.ref 20 0),(8,V.ref 21 0)] [(20,some (E.cells (bH p))),(21,sc [V.t T.nilS,V.t T.nilS])] [(20,true),(21,true)] ?_
 obtain⟨x1,hx1,h⟩:=bd h
 refine rq hC [oV (yE G hx1)] [11,12] [] [(20,some (E.cells (bH x1)))] [] (qs (vj h (fun x_=>aY [(1,vI part),(2,vI loop),(3,vI factor),(4,V.ref 20 0),(8,V.ref 21 0),(30,vB x_)] [(20,E.cells (bH x1)),(21,E.cells [V.t T.nilS,V.t T.nilS])] [20,21]) (fun j2 h=> ?_) (fun x6 h=> ?_)))
 ·
  obtain⟨x3,hx3,h⟩:=bd h
  refine aR h (fun c1 h=> ?_) (fun c1 h=> ?_)
  ·obtain⟨x4,hx4,h⟩:=bd h
   refine aR h (fun c2 h=> ?_) (fun c2 h=> ?_)
   ·obtain⟨x5,hx5,h⟩:=bd h
    exact rk hC ([oV (qS G hx3)]++rF 5 c1++[oV (qS G hx4),oF c1,oF c1,oF c2,oF c2,oV (nF G hx5),oF c2,oF c2]) (fr 13 18) [(30,vB (!x5))] [] [] (lE h)
   ·exact rk hC ([oV (qS G hx3)]++rF 5 c1++[oV (qS G hx4),oF c1,oF c1]++rT 4 c2) (fr 13 18) [(30,vB true)] [] [] (lE h)
  ·exact rk hC ([oV (qS G hx3)]++rT 7 c1++sT 4) (fr 13 18) [(30,vB true)] [] [] (lE h)
 ·refine aT h (fun c3 h=> ?_) (fun c3 h=> ?_)
  ·obtain rfl:=so h
   exact rq hC [] [9,31] [(9,vB false)] [(21,sc [V.t T.nilS,V.t T.nilS])] [] (qr eR)
  ·refine qk ?_
   obtain⟨x7,hx7,x8,hx8,x9,hx9,h⟩:=kG h
   refine rq hC [oC [] [22] (mA G hx7),oC [] [23] (jV G n hx8),.z (.at 3),.z (.fz 22 [33] []),.z (.at 3),.z (.fz 23 [35] []),oC [] [24] (fP G hx9),.z (.nat 25)] [10,32,33,34,35,36] [(10,V.ref 25 0)] [(22,none),(23,none),(24,some (ar 3 1 1 rI x9.coefs)),(25,sc [ms 24 1 1 rI x9.coefs,vI x9.const])] [(22,true),(23,true),(24,true),(25,true)] (qs ?_)
   obtain⟨x10,hx10,x11,hx11,x12,hx12,h⟩:=kG h
   obtain rfl:=so h
   exact dk hC bC [oR aD hx10,.z (.at 8),.z (.fz 24 [] [25]),oV (aDl G hx11),.z (.int 0),oV (aDj G hx12)] [9,37,38,39,40,41,42,43,44,45,46,47,48,49,50,51] [(9,vB x12.2)] [(25,some (E.cells (aK x9))),(24,none),(21,some (E.cells (bH x12.1)))] [] (qr eR)
theorem O0(G:GS)(n:Nat)(code:List UInt8)(more:List UInt8){r:Bool}(h:m5 n code more=some r):PQ G 5 [vM rY code,vM rY more] (vB r):=by
 unfold m5 at h
 refine pq aO Tryz.func5 rfl fun w X hC=> ?_
 refine rq hC [] [4] [] [] [] (qs (vj h (fun x_=>aY [(0,vM rY code),(1,vM rY more),(20,vB x_)] [] []) (fun j1 h=> ?_) (fun x2 h=> ?_)))
 ·
  refine aR h (fun c1 h=> ?_) (fun c1 h=> ?_)
  ·exact rk hC [oN rY code,oF c1,oF c1,oN rY more,oF c1,oF c1] (fr 13 8) [(20,vB (decide ((1048576:Int)<(more.length:Int))))] [] [] (lE h)
  ·exact rk hC ([oN rY code]++rT 4 c1) (fr 13 8) [(20,vB true)] [] [] (lE h)
 ·refine aT h (fun c2 h=> ?_) (fun c2 h=> ?_)
  ·obtain rfl:=so h
   exact rq hC [] [4] [(4,vB true)] [] [] (qr eR)
  ·refine qk ?_
   obtain⟨x3,hx3,h⟩:=bd h
   refine rq hC [oV (zY G hx3),.z (.nat 20)] [5,6,7,8,21,22,23,24,25,26,27] [(5,V.ref 20 0),(6,vI x3.2.1),(7,vI x3.2.2.1),(8,vI x3.2.2.2)] [(20,some (E.cells (bH x3.1)))] [(20,true)] ?_
   obtain⟨x4,hx4,h⟩:=bd h
   refine rq hC [oV (aAN G hx4),.z (.nat 21)] [9,10,28,29,30,31,32,33,34,35] [(9,V.ref 21 0),(10,vB x4.2)] [(21,some (E.cells (bH x4.1)))] [(21,true)] ?_
   obtain⟨x5,hx5,h⟩:=bd h
   refine rq hC [oV (aAG G hx5),.z (.nat 22)] [11,12,36,37,38,39,40,41,42,43] [(11,V.ref 22 0),(12,vB x5.2)] [(22,some (E.cells (bH x5.1)))] [(22,true)] (qs (vj h (fun x_=>aY [(1,vM rY more),(5,V.ref 20 0),(9,V.ref 21 0),(10,vB x4.2),(11,V.ref 22 0),(12,vB x5.2),(56,vB x_)] [(20,E.cells (bH x3.1)),(21,E.cells (bH x4.1)),(22,E.cells (bH x5.1))] [20,21,22]) (fun j6 h=> ?_) (fun x8 h=> ?_)))
   ·
    refine aR h (fun c3 h=> ?_) (fun c3 h=> ?_)
    ·obtain⟨x7,hx7,h⟩:=bd h
     refine aR h (fun c4 h=> ?_) (fun c4 h=> ?_)
     ·exact rk hC (rF 3 c3++[oV (mY G hx7),oF c3,oF c3]++rF 3 c4) (fr 44 13) [(56,vB (!x4.2))] [] [] (lE h)
     ·exact rk hC (rF 3 c3++[oV (mY G hx7),oF c3,oF c3]++rT 3 c4) (fr 44 13) [(56,vB true)] [] [] (lE h)
    ·exact rk hC (rT 5 c3++[eT,eT,eT]) (fr 44 13) [(56,vB true)] [] [] (lE h)
   ·refine aT h (fun c5 h=> ?_) (fun c5 h=> ?_)
    ·refine vj h (fun x_=>aY [(4,vB x_)] [(20,E.cells (bH x3.1)),(21,E.cells (bH x4.1)),(22,E.cells (bH x5.1))] [20,21,22]) (fun j9 h=> ?_) (fun x11 h=> ?_)
     ·
      refine aR h (fun c6 h=> ?_) (fun c6 h=> ?_)
      ·exact rk hC (rF 4 c6) [4,57,58,59,60,61,62,63,64] [(4,vB false)] [] [] (lE h)
      ·obtain⟨x10,hx10,h⟩:=bd h
       exact rk hC (rT 3 c6++[oV (mY G hx10),oT c6]) [4,57,58,59,60,61,62,63,64] [(4,vB x10)] [] [] (lE h)
     ·obtain rfl:=so h
      exact qr eR
    ·refine qk (vj h (fun x_=>aY [(4,vB x_)] [(20,E.cells (bH x3.1)),(21,E.cells (bH x4.1)),(22,E.cells (bH x5.1))] [20,21,22]) (fun j12 h=> ?_) (fun x15 h=> ?_))
     ·
      obtain⟨x13,hx13,h⟩:=bd h
      refine aR h (fun c7 h=> ?_) (fun c7 h=> ?_)
      ·exact rk hC ([oV (xZ G hx13)]++rF 6 c7) [4,65,66,67,68,69,70,71,72,73,74] [(4,vB false)] [] [] (lE h)
      ·obtain⟨x14,hx14,h⟩:=bd h
       exact rk hC ([oV (xZ G hx13)]++rT 4 c7++[oN rY more,oT c7,oV (aBQ G hx14),oT c7]) [4,65,66,67,68,69,70,71,72,73,74] [(4,vB x14)] [] [] (lE h)
     ·obtain rfl:=so h
      exact qr eR
end Go.Lift
