/- The walks: the code computes what the plain functions say. -/
import Derived.Test.YtiplelpjhgnmoaaGreatMModels
import Derived.Test.YtiplelpjhgnmoaaGreatMWalks2
set_option maxRecDepth 10000
set_option linter.unusedVariables false
namespace Go.Lift
open Go Go.Proofs
variable (G:GS) {n:Nat}
theorem aBl(G:GS): ∀(n:Nat) (e:Expr) (depth:Int) (deep:Int) (count:Int) {r:Bool×Int} (h:i_exprScan n e depth deep count=some r),VQ G 169 [E.cells [vI count]] [V.agg (eK e),vI depth,vI deep,V.ref 0 0] (vB r.1) [E.cells [vI r.2]]:=by
 intro n
 induction n with
 |zero=>intro e depth deep count r h;rw [i_exprScan.eq_def] at h;cases h
 |succ n ih=>
  intro e depth deep count r h
  rw [i_exprScan.eq_def] at h;dsimp only at h
  refine vq aO Tryz.func169 rfl fun w X β0 hC hg=> ?_
  refine rq hC [.z (.b (true))] [4,8] [(4,V.tp (gU e))] [] [] (rq hC [] (fr 9 5) [] [(0,sc [vI (wr (count+1))])] [] (qs (vj h (fun x_=>aZ [(1,vI depth),(2,vI deep),(3,V.ref 0 0),(4,V.tp (gU e)),(21,vB x_)] [(0,E.cells [vI (wr (count+1))])] [0]) (fun j1 h=> ?_) (fun x2 h=> ?_))))
  ·
   refine aR h (fun c1 h=> ?_) (fun c1 h=> ?_)
   ·exact rk hC (rF 3 c1) (fr 14 8) [(21,vB (decide ((5:Int)<deep)))] [] [] (lE h)
   ·exact rk hC (rT 3 c1) (fr 14 8) [(21,vB true)] [] [] (lE h)
  ·refine aS h (fun c2 h=> ?_) (fun c2 h=> ?_)
   ·obtain rfl:=so h
    exact rq hC [] [8] [(8,vB false)] [] [] (qr eW)
   ·refine qk (qs (vj h (fun x_=>aZ [(1,vI depth),(2,vI deep),(3,V.ref 0 0),(4,V.tp (gU e)),(51,vB x_)] [(0,E.cells [vI (wr (count+1))])] [0]) (fun j3 h=> ?_) (fun x10 h=> ?_)))
    ·
     refine aR h (fun c3 h=> ?_) (fun c3 h=> ?_)
     ·refine aR h (fun c4 h=> ?_) (fun c4 h=> ?_)
      ·refine aR h (fun c5 h=> ?_) (fun c5 h=> ?_)
       ·exact rk hC (rF 4 c3++sF 4++rF 4 c4++[eF,oF c4]++sF 5++rF 4 c5++[eF,oF c5,eF]) (fr 22 30) [(51,vB false)] [] [] (lE h)
       ·obtain⟨x4,hx4,h⟩:=bd h
        exact rk hC (rF 4 c3++sF 4++rF 4 c4++[eF,oF c4]++sF 5++rT 3 c5++[oV (nF G hx4),oT c5,eF,oT c5,eF]) (fr 22 30) [(51,vB (!x4))] [] [] (lE h)
      ·obtain⟨x5,hx5,h⟩:=bd h
       refine aR h (fun c6 h=> ?_) (fun c6 h=> ?_)
       ·refine aR h (fun c7 h=> ?_) (fun c7 h=> ?_)
        ·exact rk hC (rF 4 c3++sF 4++rT 3 c4++[oV (iW G hx5),oT c4,eF,oT c4,eF]++rF 4 c6++rF 4 c7++[oF c6,oF c7,oF c6]) (fr 22 30) [(51,vB false)] [] [] (lE h)
        ·obtain⟨x6,hx6,h⟩:=bd h
         exact rk hC (rF 4 c3++sF 4++rT 3 c4++[oV (iW G hx5),oT c4,eF,oT c4,eF]++rF 4 c6++rT 3 c7++[oV (nF G hx6),oT c7,oF c6,oT c7,oF c6]) (fr 22 30) [(51,vB (!x6))] [] [] (lE h)
       ·exact rk hC (rF 4 c3++sF 4++rT 3 c4++[oV (iW G hx5),oT c4,eF,oT c4,eF]++rT 6 c6) (fr 22 30) [(51,vB true)] [] [] (lE h)
     ·refine aR h (fun c8 h=> ?_) (fun c8 h=> ?_)
      ·refine aR h (fun c9 h=> ?_) (fun c9 h=> ?_)
       ·refine aR h (fun c10 h=> ?_) (fun c10 h=> ?_)
        ·exact rk hC (rT 4 c3++rF 4 c8++rF 4 c9++[oF c8,oF c9,oF c8]++sF 4++rF 4 c10++[eF,oF c10,eF]) (fr 22 30) [(51,vB false)] [] [] (lE h)
        ·obtain⟨x7,hx7,h⟩:=bd h
         exact rk hC (rT 4 c3++rF 4 c8++rF 4 c9++[oF c8,oF c9,oF c8]++sF 4++rT 3 c10++[oV (nF G hx7),oT c10,eF,oT c10,eF]) (fr 22 30) [(51,vB (!x7))] [] [] (lE h)
       ·obtain⟨x8,hx8,h⟩:=bd h
        refine aR h (fun c11 h=> ?_) (fun c11 h=> ?_)
        ·refine aR h (fun c12 h=> ?_) (fun c12 h=> ?_)
         ·exact rk hC (rT 4 c3++rF 4 c8++rT 3 c9++[oV (iW G hx8),oT c9,oF c8,oT c9,oF c8]++rF 4 c11++rF 4 c12++[oF c11,oF c12,oF c11]) (fr 22 30) [(51,vB false)] [] [] (lE h)
         ·obtain⟨x9,hx9,h⟩:=bd h
          exact rk hC (rT 4 c3++rF 4 c8++rT 3 c9++[oV (iW G hx8),oT c9,oF c8,oT c9,oF c8]++rF 4 c11++rT 3 c12++[oV (nF G hx9),oT c12,oF c11,oT c12,oF c11]) (fr 22 30) [(51,vB (!x9))] [] [] (lE h)
        ·exact rk hC (rT 4 c3++rF 4 c8++rT 3 c9++[oV (iW G hx8),oT c9,oF c8,oT c9,oF c8]++rT 6 c11) (fr 22 30) [(51,vB true)] [] [] (lE h)
      ·exact rk hC (rT 4 c3++rT 6 c8++sT 6) (fr 22 30) [(51,vB true)] [] [] (lE h)
    ·refine aS h (fun c13 h=> ?_) (fun c13 h=> ?_)
     ·obtain rfl:=so h
      exact rq hC [] [8] [(8,vB false)] [] [] (qr eW)
     ·refine qk (qs (qb (rq hC [] (fr 52 4) [(52,vB (decide (e.kind=1)))] [] [] (aS h (fun c14 h=> ?_) (fun c14 h=> ?_)))))
      ·refine vj h (fun x_=>aZ [(8,vB x_)] [(0,E.cells [vI (wr (count+1))])] [0]) (fun j11 h=> ?_) (fun x13 h=> ?_)
       ·
        obtain⟨x12,hx12,h⟩:=bd h
        refine aR h (fun c15 h=> ?_) (fun c15 h=> ?_)
        ·exact rk hC ([oV (bK G hx12)]++rF 5 c15) [8,56,57,58,59,60,61,62,63,64] [(8,vB false)] [] [] (lE h)
        ·exact rk hC ([oV (bK G hx12)]++rT 3 c15++[oN aL e.kids,oT c15,oT c15]) [8,56,57,58,59,60,61,62,63,64] [(8,vB (decide ((e.kids.length:Int)=0)))] [] [] (lE h)
       ·obtain rfl:=so h
        exact qr eW
      ·refine rq hC [] (fr 65 4) [(65,vB (decide (e.kind=2)))] [] [] (aS h (fun c16 h=> ?_) (fun c16 h=> ?_))
       ·refine vj h (fun x_=>aZ [(8,vB x_)] [(0,E.cells [vI (wr (count+1))])] [0]) (fun j14 h=> ?_) (fun x17 h=> ?_)
        ·
         obtain⟨x15,hx15,h⟩:=bd h
         refine aR h (fun c17 h=> ?_) (fun c17 h=> ?_)
         ·exact rk hC ([oV (dZ G hx15)]++rF 6 c17++sF 5) [8,69,70,71,72,73,74,75,76,77,78,79,80,81,82,83,84] [(8,vB false)] [] [] (lE h)
         ·obtain⟨x16,hx16,h⟩:=bd h
          refine aR h (fun c18 h=> ?_) (fun c18 h=> ?_)
          ·exact rk hC ([oV (dZ G hx15)]++rT 3 c17++[oV (fU G hx16)]++rT 3 c17++rF 5 c18) [8,69,70,71,72,73,74,75,76,77,78,79,80,81,82,83,84] [(8,vB false)] [] [] (lE h)
          ·exact rk hC ([oV (dZ G hx15)]++rT 3 c17++[oV (fU G hx16)]++rT 3 c17++rT 3 c18++[oN aL e.kids,oT c18,oT c18]) [8,69,70,71,72,73,74,75,76,77,78,79,80,81,82,83,84] [(8,vB (decide ((e.kids.length:Int)=0)))] [] [] (lE h)
        ·obtain rfl:=so h
         exact qr eW
       ·refine rq hC [] (fr 85 4) [(85,vB (decide (e.kind=3)))] [] [] (aS h (fun c19 h=> ?_) (fun c19 h=> ?_))
        ·refine vj h (fun x_=>aZ [(8,vB x_)] [(0,E.cells [vI (wr (count+1))])] [0]) (fun j18 h=> ?_) (fun x20 h=> ?_)
         ·
          obtain⟨x19,hx19,h⟩:=bd h
          refine aR h (fun c20 h=> ?_) (fun c20 h=> ?_)
          ·exact rk hC ([oV (nG G hx19)]++rF 5 c20) [8,89,90,91,92,93,94,95,96,97,98] [(8,vB false)] [] [] (lE h)
          ·exact rk hC ([oV (nG G hx19)]++rT 3 c20++[oN aL e.kids,oT c20,oT c20]) [8,89,90,91,92,93,94,95,96,97,98] [(8,vB (decide ((e.kids.length:Int)=0)))] [] [] (lE h)
         ·obtain rfl:=so h
          exact qr eW
        ·refine vj h (fun x_=>aZ [(1,vI depth),(2,vI deep),(3,V.ref 0 0),(4,V.tp (gU e)),(99,vB x_)] [(0,E.cells [vI (wr (count+1))])] [0]) (fun j21 h=> ?_) (fun x23 h=> ?_)
         ·
          obtain⟨x22,hx22,h⟩:=bd h
          refine aR h (fun c21 h=> ?_) (fun c21 h=> ?_)
          ·exact rk hC ([oV (aCM G hx22)]++rF 3 c21++[oN aL e.kids,oF c21,oF c21]) (fr 99 11) [(99,vB (!decide ((e.kids.length:Int)=2)))] [] [] (lE h)
          ·exact rk hC ([oV (aCM G hx22)]++rT 5 c21) (fr 99 11) [(99,vB true)] [] [] (lE h)
         ·refine aS h (fun c22 h=> ?_) (fun c22 h=> ?_)
          ·obtain rfl:=so h
           exact rq hC [] [8] [(8,vB false)] [] [] (qr eW)
          ·refine qk (vj h (fun x_=>aZ [(8,vB x_.2)] [(0,E.cells [vI x_.1])] [0]) (fun j24 h=> ?_) ?_)
           ·
            obtain⟨x25,hx25,x26,hx26,h⟩:=cT h
            refine aR h (fun c23 h=> ?_) (fun c23 h=> ?_)
            ·exact rk hC ([.z (.row (fP x25)),oQ (iO aL hx25 (d5 x25)),oC [0] [] (ih x25 depth (wr (deep+1)) (wr (count+1)) hx26)]++rF 10 c23) [8,110,111,112,113,114,115,116,117,118,119,120,121,122,123,124,125,126,127,128,129] [(8,vB false)] [(0,sc [vI x26.2])] [(0,true)] (lE h)
            ·obtain⟨x27,hx27,x28,hx28,h⟩:=cT h
             exact rk hC ([.z (.row (fP x25)),oQ (iO aL hx25 (d5 x25)),oC [0] [] (ih x25 depth (wr (deep+1)) (wr (count+1)) hx26)]++rT 3 c23++[.z (.row (fP x27)),oQ (iO aL hx27 (d5 x27))]++rT 6 c23++[oC [0] [] (ih x27 depth (wr (deep+1)) x26.2 hx28),oT c23]) [8,110,111,112,113,114,115,116,117,118,119,120,121,122,123,124,125,126,127,128,129] [(8,vB x28.1)] [(0,sc [vI x28.2])] [(0,true),(0,true)] (lE h)
           ·rintro⟨x29,x30⟩ h
            obtain rfl:=so h
            exact qr eW
theorem V7{s}{depth}{r}(h:mE n s depth=some r):PQ G 126 [V.agg (dR s),vI depth] (vB r):=by
 unfold mE at h
 refine pq aO Tryz.func126 rfl fun w X hC=> ?_
 refine rq hC [.z (.b (true))] [2,4] [(2,V.tp (oO s))] [] [] (rq hC [.z (.nat 20)] [5] [(5,V.ref 20 0)] [(20,sc [vI 0])] [(20,true)] (vj h (fun x_=>aZ [(4,vB x_.2)] [(20,E.cells [vI x_.1])] [20]) (fun j1 h=> ?_) ?_))
 ·
  obtain⟨x2,hx2,h⟩:=bd h
  refine aR h (fun c1 h=> ?_) (fun c1 h=> ?_)
  ·exact rk hC ([oV (bK G hx2)]++rF 5 c1++sF 5) [4,6,7,8,9,10,11,12,13,14,15,16,17,18,19] [(4,vB false)] [] [] (lE h)
  ·obtain⟨x3,hx3,h⟩:=bd h
   refine aR h (fun c2 h=> ?_) (fun c2 h=> ?_)
   ·exact rk hC ([oV (bK G hx2)]++rT 4 c1++[oV (nG G hx3),oT c1]++rF 5 c2) [4,6,7,8,9,10,11,12,13,14,15,16,17,18,19] [(4,vB false)] [] [] (lE h)
   ·obtain⟨x4,hx4,h⟩:=bd h
    exact rk hC ([oV (bK G hx2)]++rT 4 c1++[oV (nG G hx3),oT c1]++rT 4 c2++[oC [20] [] (aBl G n s.value depth 1 0 hx4),oT c2]) [4,6,7,8,9,10,11,12,13,14,15,16,17,18,19] [(4,vB x4.1)] [(20,sc [vI x4.2])] [(20,true)] (lE h)
 ·rintro⟨x5,x6⟩ h
  obtain rfl:=so h
  exact qr eR
theorem qP(G:GS)(n:Nat)(s:Stmt)(c0__a1:Part){r:Bool}(h:cM n s c0__a1=some r):PQ G 125 [V.agg (dR s),V.tp (pK c0__a1)] (vB r):=by
 unfold cM at h
 refine pq aO Tryz.func125 rfl fun w X hC=> ?_
 refine rq hC [.z (.b (true))] [2,3] [(2,V.tp (oO s))] [] [] ?_
 obtain⟨x1,hx1,h⟩:=bd h
 obtain rfl:=so h
 exact rq hC [oN aC c0__a1.nest,oV (V7 G hx1)] (fr 3 7) [(3,vB (!x1))] [] [] (qr eR)
theorem V4(G:GS)(n:Nat)(n_a0:Int){r:Bool}(h:kD n n_a0=some r):PQ G 170 [vI n_a0] (vB r):=by
 unfold kD at h
 refine pq aO Tryz.func170 rfl fun w X hC=> ?_
 refine rq hC [] [2] [] [] [] ?_
 obtain⟨x1,hx1,h⟩:=bd h
 obtain rfl:=so h
 exact rq hC [oV (bK G hx1)] (fr 2 4) [(2,vB (!x1))] [] [] (qr eR)
theorem aCL{point}{r}(h:qD n point=some r):PQ G 127 [vM rI point] (vB r):=by
 unfold qD at h
 refine pq aO Tryz.func127 rfl fun w X hC=> ?_
 refine rq hC [] [2] [] [] [] (vj h (fun x_=>aZ [(2,vB x_)] [] []) (fun j1 h=> ?_) (fun x3 h=> ?_))
 ·
  refine aR h (fun c1 h=> ?_) (fun c1 h=> ?_)
  ·exact rk hC ([oN rI point]++rF 4 c1) (fr 2 9) [(2,vB false)] [] [] (lE h)
  ·obtain⟨x2,hx2,h⟩:=bd h
   exact rk hC [oN rI point,oT c1,oT c1,oV (e9 G n point 170 (fun q0=>kD n q0) (fun q0 r h=>V4 G n q0 h) hx2),oT c1,oT c1] (fr 2 9) [(2,vB (!x2))] [] [] (lE h)
 ·obtain rfl:=so h
  exact qr eR
theorem sJ(G:GS)(n:Nat)(s:List Stmt)(fF:FuncId)(fC0:List T)(f:Stmt→Option Bool)(hf: ∀(q0:Stmt) r,f q0=some r→PQ G fF [V.agg (dR q0),V.tp fC0] (vB r)){r:Int}(h:iN n s f=some r):PQ G 167 [vM aH s,V.fn fF [V.tp fC0]] (vI r):=by
 unfold iN at h
 refine pq aO Tryz.func167 rfl fun w X hC=> ?_
 refine rq hC [] [4] [] [] [] (qs (rq hC [oN aH s] [6,7,8] [(7,vI (s.length:Int)),(8,vI 0)] [] [] (qb (kG h (fun x_=>aZ [(0,vM aH s),(1,V.fn fF [V.tp fC0]),(7,vI (s.length:Int)),(8,vI x_)] [] []) lS ?_))))
 rintro again2 x1 h
 refine rq hC [] [9] [(9,vB (decide (x1<(s.length:Int))))] [] [] (qs (aS h (fun c1 h=> ?_) (fun c1 h=> ?_)))
 ·refine qk (qs (qb (rq hC [] [5,10] [(5,vI x1)] [] [] ?_)))
  obtain⟨x3,hx3,x4,hx4,h⟩:=cT h
  refine rq hC [oR aH hx3,oV (hf x3 _ hx4)] (fr 11 6) [(16,vB x4)] [] [] (aS h (fun c2 h=> ?_) (fun c2 h=> ?_))
  ·obtain rfl:=so h
   exact rq hC [] [4,17] [(4,vI x1)] [] [] (qr eR)
  ·exact qk (rk hC [] [8,18] [(8,vI (wr (x1+1)))] [] [] (lE h))
 ·obtain rfl:=so h
  exact cV (rq hC [] [4] [(4,vI (-1))] [] [] (qr eR))
theorem pG(G:GS)(n:Nat)(s:List Stmt)(fF:FuncId)(fC0:List T)(f:Stmt→Option Bool)(hf: ∀(q0:Stmt) r,f q0=some r→PQ G fF [V.agg (dR q0),V.tp fC0] (vB r)){r:Bool}(h:d6 n s f=some r):PQ G 124 [vM aH s,V.fn fF [V.tp fC0]] (vB r):=by
 unfold d6 at h
 refine pq aO Tryz.func124 rfl fun w X hC=> ?_
 refine rq hC [] [4] [] [] [] ?_
 obtain⟨x1,hx1,h⟩:=bd h
 obtain rfl:=so h
 exact rq hC [oV (sJ G n s fF fC0 f hf hx1)] (fr 4 5) [(4,vB (decide ((0:Int)≤x1)))] [] [] (qr eR)
theorem lB{p}{r}(h:cJ n p=some r):VQ G 76 [] [V.agg (bQ p)] (V.tup [ms 0 1 3 bA r.1,vB r.2]) [ar 135 1 3 bA r.1]:=by
 unfold cJ at h
 refine vq aO Tryz.func76 rfl fun w X β0 hC hg=> ?_
 refine rq hC [.z (.b (true))] [1,2,3] [(1,V.tp (bZ p))] [] [] (qs (vj h (fun x_=>aZ [(1,V.tp (bZ p)),(22,vB x_)] [] []) (fun j1 h=> ?_) (fun x3 h=> ?_)))
 ·
  obtain⟨x2,hx2,h⟩:=bd h
  refine aR h (fun c1 h=> ?_) (fun c1 h=> ?_)
  ·exact rk hC ([oV (yK G hx2)]++rF 3 c1++[oN aD p.parts,oF c1,oF c1]) (fr 13 10) [(22,vB (decide ((4:Int)<(p.parts.length:Int))))] [] [] (lE h)
  ·exact rk hC ([oV (yK G hx2)]++rT 5 c1) (fr 13 10) [(22,vB true)] [] [] (lE h)
 ·refine aS h (fun c2 h=> ?_) (fun c2 h=> ?_)
  ·obtain rfl:=so h
   exact rq hC [] [2,3] [(2,V.t T.nilS),(3,vB false)] [] [] (qw (lk hC [.grow 2 0 135] [2] [(2,ms 0 1 3 bA [])] [(0,some (ar 135 1 3 bA []))] [(0,true)]) (qr eW))
  ·refine qk (rq hC [] [4] [(4,V.t T.nilS)] [] [] (qs (rq hC [oN aD p.parts] (fr 23 4) [(24,vM aD p.parts),(25,vI (p.parts.length:Int)),(26,vI 0)] [] [] (qb (qw (lk hC [.grow 4 20 135] [4] [(4,ms 20 1 3 bA [])] [(20,some (ar 135 1 3 bA []))] [(20,true)]) ?_)))))
   refine bD (γ:=Nat) h (fun x_ g_=>aZ [(1,V.tp (bZ p)),(4,ms 20 g_ 3 bA x_.1),(24,vM aD p.parts),(25,vI (p.parts.length:Int)),(26,vI x_.2)] [(20,ar 135 g_ 3 bA x_.1)] [20]) 1 (lS) ?_
   rintro again7 ⟨x4,x5⟩ g6 h
   refine rq hC [] [27] [(27,vB (decide (x5<(p.parts.length:Int))))] [] [] (qs (aS h (fun c3 h=> ?_) (fun c3 h=> ?_)))
   ·refine qk (qs (qb ?_))
    obtain⟨x8,hx8,h⟩:=bd h
    refine rq hC [oR aD hx8,.z (.nat 21),.z (.at 0),.z (.fp 21 [6])] [5,6,28,29,30] [(5,vI x5),(6,V.tp (pK x8))] [(21,none)] [(21,true)] ?_
    obtain⟨x9,hx9,h⟩:=bd h
    refine rq hC [oC [] [22] (S1 G hx9)] [7,8,31,32,33,34,35,36] [(7,ms 22 1 1 (rL rI) x9.1),(8,vB x9.2)] [(22,some (ar 33 1 1 (rL rI) x9.1))] [(22,true)] (qs (vj h (fun x_=>aZ [(1,V.tp (bZ p)),(4,ms 20 g6 3 bA x4),(5,vI x5),(6,V.tp (pK x8)),(7,ms 22 1 1 (rL rI) x9.1),(24,vM aD p.parts),(25,vI (p.parts.length:Int)),(26,vI x5),(51,vB x_)] [(20,ar 135 g6 3 bA x4),(22,ar 33 1 1 (rL rI) x9.1)] [20,21,22]) (fun j10 h=> ?_) (fun x13 h=> ?_)))
    ·
     refine aR h (fun c4 h=> ?_) (fun c4 h=> ?_)
     ·obtain⟨x11,hx11,h⟩:=bd h
      refine aR h (fun c5 h=> ?_) (fun c5 h=> ?_)
      ·obtain⟨x12,hx12,h⟩:=bd h
       exact rk hC (rF 3 c4++[oN aH x8.body,oF c4,oV (bK G hx11),oF c4,oF c4]++rF 4 c5++[oV (pG G n x8.body 125 (pK x8) (fun q0=>cM n q0 x8) (fun q0 r h=>qP G n q0 x8 h) hx12),oF c5]) (fr 37 15) [(51,vB x12)] [] [] (lE h)
      ·exact rk hC (rF 3 c4++[oN aH x8.body,oF c4,oV (bK G hx11),oF c4,oF c4]++rT 5 c5) (fr 37 15) [(51,vB true)] [] [] (lE h)
     ·exact rk hC (rT 6 c4++sT 5) (fr 37 15) [(51,vB true)] [] [] (lE h)
    ·refine aS h (fun c6 h=> ?_) (fun c6 h=> ?_)
     ·obtain rfl:=so h
      exact rq hC [] [2,3] [(2,V.t T.nilS),(3,vB false)] [] [] (qw (lk hC [.grow 2 0 135] [2] [(2,ms 0 1 3 bA [])] [(0,some (ar 135 1 3 bA []))] [(0,true)]) (qr eW))
     ·refine qk (rq hC [oN (rL rI) x9.1] [52,53,54] [(52,ms 22 1 1 (rL rI) x9.1),(53,vI (x9.1.length:Int)),(54,vI 0)] [] [] (qb (bD (γ:=Nat) h (fun x_ g_=>aZ [(1,V.tp (bZ p)),(4,ms 20 g_ 3 bA x_.1),(5,vI x5),(6,V.tp (pK x8)),(24,vM aD p.parts),(25,vI (p.parts.length:Int)),(26,vI x5),(52,ms 22 1 1 (rL rI) x9.1),(53,vI (x9.1.length:Int)),(54,vI x_.2)] [(20,ar 135 g_ 3 bA x_.1),(22,ar 33 1 1 (rL rI) x9.1)] [20,21,22]) g6 (lS) ?_)))
      rintro again17 ⟨x14,x15⟩ g16 h
      refine rq hC [] [55] [(55,vB (decide (x15<(x9.1.length:Int))))] [] [] (qs (aS h (fun c7 h=> ?_) (fun c7 h=> ?_)))
      ·refine qk (qs (qb ?_))
       obtain⟨x18,hx18,h⟩:=bd h
       refine rq hC [oQ (jA (rL rI) hx18),oX (rL rI) hx18] [10,56,57] [(10,vM rI x18)] [] [] (qs ?_)
       obtain⟨x19,hx19,h⟩:=bd h
       refine rq hC [oV (aCL G hx19)] [58,59,60] [(60,vB (!x19))] [] [] (aS h (fun c8 h=> ?_) (fun c8 h=> ?_))
       ·obtain rfl:=so h
        exact rq hC [] [2,3] [(2,V.t T.nilS),(3,vB false)] [] [] (qw (lk hC [.grow 2 0 135] [2] [(2,ms 0 1 3 bA [])] [(0,some (ar 135 1 3 bA []))] [(0,true)]) (qr eW))
       ·refine qk (rq hC [oN aH x8.body] (fr 61 4) [(62,vM aH x8.body),(63,vI (x8.body.length:Int)),(64,vI 0)] [] [] (qb (bD (γ:=Nat) h (fun x_ g_=>aZ [(1,V.tp (bZ p)),(4,ms 20 g_ 3 bA x_.1),(5,vI x5),(6,V.tp (pK x8)),(10,vM rI x18),(24,vM aD p.parts),(25,vI (p.parts.length:Int)),(26,vI x5),(52,ms 22 1 1 (rL rI) x9.1),(53,vI (x9.1.length:Int)),(54,vI x15),(62,vM aH x8.body),(63,vI (x8.body.length:Int)),(64,vI x_.2)] [(20,ar 135 g_ 3 bA x_.1),(22,ar 33 1 1 (rL rI) x9.1)] [20,21,22]) g16 (lS) ?_)))
        rintro again23 ⟨x20,x21⟩ g22 h
        refine rq hC [] [65] [(65,vB (decide (x21<(x8.body.length:Int))))] [] [] (qs (aS h (fun c9 h=> ?_) (fun c9 h=> ?_)))
        ·refine qk (qs (qb ?_))
         obtain⟨x24,hx24,h⟩:=bd h
         refine rq hC [oR aH hx24,.z (.nat 23)] [11,12,66,67,68] [(11,vI x21),(12,V.ref 23 0)] [(23,some (E.cells (dR x24)))] [(23,true)] (qs ?_)
         obtain⟨x25,hx25,h⟩:=bd h
         refine rq hC [oV (wQ G hx25)] (fr 69 5) [(73,vB (!x25))] [] [] (aS h (fun c10 h=> ?_) (fun c10 h=> ?_))
         ·obtain rfl:=so h
          exact rq hC [] [2,3] [(2,V.t T.nilS),(3,vB false)] [] [] (qw (lk hC [.grow 2 0 135] [2] [(2,ms 0 1 3 bA [])] [(0,some (ar 135 1 3 bA []))] [(0,true)]) (qr eW))
         ·refine qk ?_
          obtain⟨x26,hx26,x27,hx27,h⟩:=cT h
          exact rk hC [oC [] [24] (G.clone x18 hx26),.z (.at 4),.z (.fz 24 [78] []),.z (.int 0),oA (aP bA hx27),oQ (b6 (r:=bA) 3 uH x20),oQ (b6 (r:=bA) 3 uH [(⟨x5,x21,x26⟩:Inst)])] [4,74,75,76,77,78,79,80,81] [(4,ms 20 (g22+1) 3 bA x27)] [(24,none),(20,some (ar 135 (g22+1) 3 bA x27))] [(24,true)] (rk hC [] [64,82] [(64,vI (wr (x21+1)))] [] [] ⟨(x27,wr (x21+1)),(g22+1),h,lS⟩)
        ·exact cV (rk hC [] [54,83] [(54,vI (wr (x15+1)))] [] [] ⟨(x20,wr (x15+1)),g22,h,lS⟩)
      ·exact cV (rk hC [] [26,84] [(26,vI (wr (x5+1)))] [] [] ⟨(x14,wr (x5+1)),g16,h,lS⟩)
   ·obtain rfl:=so h
    exact cV (rq hC [oN bA x4] [2,3,85,86,87,88] [(2,ms 20 g6 3 bA x4),(3,vB (decide ((x4.length:Int)≤120)))] [] [] (qw (lk hC [.ren 2 20 0] [2] [(2,ms 0 1 3 bA x4)] [(0,some (ar 135 1 3 bA x4)),(20,none)] [(0,true)]) (qr eW)))
theorem cA{p}{r}(h:eJ n p=some r):PQ G 23 [V.agg (bQ p)] (vB r):=by
 unfold eJ at h
 refine pq aO Tryz.func23 rfl fun w X hC=> ?_
 refine rq hC [.z (.b (true))] [1,2] [(1,V.tp (bZ p))] [] [] ?_
 obtain⟨x1,hx1,h⟩:=bd h
 obtain rfl:=so h
 exact rq hC [oC [] [20] (lB G hx1)] (fr 3 7) [(4,vB x1.2)] [(20,some (ar 135 1 3 bA x1.1))] [(20,true)] (rq hC [] [2,10] [(2,vB x1.2)] [] [] (qr eR))
theorem rR{p}{r}(h:jW n p=some r):PQ G 38 [V.agg (bQ p)] (V.tup [V.agg (bQ r.1),vB r.2]):=by
 unfold jW at h
 refine pq aO Tryz.func38 rfl fun w X hC=> ?_
 refine rq hC [.z (.b (true)),.z (.nat 20)] [1,2,3] [(1,V.tp (bZ p)),(2,V.ref 20 0)] [(20,sc [V.t T.nilS,V.t T.nilS])] [(20,true)] (qs ?_)
 obtain⟨x1,hx1,h⟩:=bd h
 refine rq hC [oV (cA G hx1)] [4,5,6] [(6,vB (!x1))] [] [] (aS h (fun c1 h=> ?_) (fun c1 h=> ?_))
 ·obtain rfl:=so h
  exact rq hC [] [3,7] [(3,vB false)] [(20,sc [V.t T.nilS,V.t T.nilS])] [] (qr eR)
 ·refine qk ?_
  obtain⟨x2,hx2,h⟩:=bd h
  obtain rfl:=so h
  exact rq hC [oC [] [21,22] (F8 G hx2)] [3,8,9] [(3,vB true)] [(21,some (ar 77 1 2 aI x2.arrays)),(22,some (ar 62 1 2 aD x2.parts)),(20,sc [ms 21 1 2 aI x2.arrays,ms 22 1 2 aD x2.parts])] [(21,true),(22,true)] (qw (lk hC [.fz 21 [] [20]] [] [] [(20,sc [vM aI x2.arrays,ms 22 1 2 aD x2.parts]),(21,none)] []) (qw (lk hC [.fz 22 [] [20]] [] [] [(20,some (E.cells (bQ x2))),(22,none)] []) (qr eR)))
theorem cG{p}{part}{r}(h:eG n p part=some r):PQ G 54 [V.agg (bQ p),vI part] (vB r):=by
 unfold eG at h
 refine pq aO Tryz.func54 rfl fun w X hC=> ?_
 refine rq hC [.z (.b (true))] [2,4] [(2,V.tp (bZ p))] [] [] ?_
 obtain⟨x1,hx1,h⟩:=bd h
 obtain rfl:=so h
 exact rq hC [oN aD p.parts,oV (bK G hx1)] (fr 4 7) [(4,vB x1)] [] [] (qr eR)
theorem oI{p}{part}{loop}{r}(h:iS n p part loop=some r):PQ G 59 [V.agg (bQ p),vI part,vI loop] (vB r):=by
 unfold iS at h
 refine pq aO Tryz.func59 rfl fun w X hC=> ?_
 refine rq hC [.z (.b (true))] [3,6] [(3,V.tp (bZ p))] [] [] (vj h (fun x_=>aZ [(6,vB x_)] [] []) (fun j1 h=> ?_) (fun x5 h=> ?_))
 ·
  obtain⟨x2,hx2,h⟩:=bd h
  refine aR h (fun c1 h=> ?_) (fun c1 h=> ?_)
  ·exact rk hC ([oV (cG G hx2)]++rF 11 c1) (fr 6 16) [(6,vB false)] [] [] (lE h)
  ·obtain⟨x3,hx3,x4,hx4,h⟩:=cT h
   exact rk hC ([oV (cG G hx2)]++rT 5 c1++[oR aD hx3]++rT 3 c1++[oN aC x3.nest,oT c1,oT c1,oV (bK G hx4),oT c1]) (fr 6 16) [(6,vB x4)] [] [] (lE h)
 ·obtain rfl:=so h
  exact qr eR
theorem tT(G:GS)(n:Nat)(p:Prog)(part:Int)(loop:Int){r:Prog×Bool}(h:iP n p part loop=some r)(hr:r.2=true):VQ G 28 [] [V.agg (bQ p),vI part,vI loop] (V.tup [V.agg [ms 0 1 2 aI r.1.arrays,ms 1 1 2 aD r.1.parts],V.eref 1 1 2 (0+Int.toNat part) 0,vB true]) [ar 77 1 2 aI r.1.arrays,E.tree cK 0 1 (List.map aD r.1.parts) []]:=by
 unfold iP at h
 refine vq aO Tryz.func28 rfl fun w X β0 hC hg=> ?_
 refine rq hC [.z (.b (true)),.z (.nat 20)] [3,6,7,8] [(3,V.tp (bZ p)),(6,V.ref 20 0)] [(20,sc [V.t T.nilS,V.t T.nilS])] [(20,true)] (qs (vj h (fun x_=>aZ [(1,vI part),(3,V.tp (bZ p)),(6,V.ref 20 0),(29,vB x_)] [(20,E.cells [V.t T.nilS,V.t T.nilS])] [20]) (fun j1 h=> ?_) (fun x5 h=> ?_)))
 ·
  obtain⟨x2,hx2,h⟩:=bd h
  refine aR h (fun c1 h=> ?_) (fun c1 h=> ?_)
  ·obtain⟨x3,hx3,h⟩:=bd h
   refine aR h (fun c2 h=> ?_) (fun c2 h=> ?_)
   ·refine aR h (fun c3 h=> ?_) (fun c3 h=> ?_)
    ·exact rk hC ([oV (cA G hx2)]++rF 3 c1++[oV (cG G hx3),oF c1,oF c1]++rF 3 c2++rF 5 c3++[oF c2,oF c3,oF c2]) (fr 10 20) [(29,vB false)] [] [] (lE h)
    ·obtain⟨x4,hx4,h⟩:=bd h
     exact rk hC ([oV (cA G hx2)]++rF 3 c1++[oV (cG G hx3),oF c1,oF c1]++rF 3 c2++rT 4 c3++[oV (oI G hx4),oT c3,oF c2,oT c3,oF c2]) (fr 10 20) [(29,vB (!x4))] [] [] (lE h)
   ·exact rk hC ([oV (cA G hx2)]++rF 3 c1++[oV (cG G hx3),oF c1,oF c1]++rT 5 c2) (fr 10 20) [(29,vB true)] [] [] (lE h)
  ·exact rk hC ([oV (cA G hx2)]++rT 5 c1++sT 5) (fr 10 20) [(29,vB true)] [] [] (lE h)
 ·refine aS h (fun c4 h=> ?_) (fun c4 h=> ?_)
  ·obtain rfl:=so h
   cases hr
  ·refine qk ?_
   obtain⟨x6,hx6,x7,hx7,h⟩:=cT h
   obtain rfl:=so h
   exact rq hC [oC [] [21,22] (yL G hx6),.z (.nat 23)] [9,31,32] [(9,V.ref 23 0)] [(21,some (ar 77 1 2 aI x6.arrays)),(22,some (E.tree cK 0 1 (List.map aD x6.parts) [])),(23,sc [ms 21 1 2 aI x6.arrays,ms 22 1 2 aD x6.parts])] [(21,true),(22,true),(23,true)] (qw (lk hC [.rn 21 0 [] [23]] [] [] [(23,sc [ms 0 1 2 aI x6.arrays,ms 22 1 2 aD x6.parts]),(21,none),(0,some (ar 77 1 2 aI x6.arrays))] [(0,true)]) (qw (lk hC [.rn 22 1 [] [23]] [] [] [(23,sc [ms 0 1 2 aI x6.arrays,ms 1 1 2 aD x6.parts]),(22,none),(1,some (E.tree cK 0 1 (List.map aD x6.parts) []))] [(1,true)]) (qs (dk hC bF [oQ (jA aD hx7)] [7,8,33,34,35,36,37] [(7,V.eref 1 1 2 (0+Int.toNat part) 0),(8,vB true)] [(20,sc [ms 0 1 2 aI x6.arrays,ms 1 1 2 aD x6.parts])] [] (qr eW)))))
theorem tU(G:GS)(n:Nat)(p:Prog)(part:Int)(loop:Int){r:Prog×Bool}(h:iP n p part loop=some r)(hr:r.2=false):PQ G 28 [V.agg (bQ p),vI part,vI loop] (V.tup [V.agg [vM aI [],vM aD []],V.t T.nilP,vB false]):=by
 unfold iP at h
 refine pq aO Tryz.func28 rfl fun w X hC=> ?_
 refine rq hC [.z (.b (true)),.z (.nat 20)] [3,6,7,8] [(3,V.tp (bZ p)),(6,V.ref 20 0)] [(20,sc [V.t T.nilS,V.t T.nilS])] [(20,true)] (qs (vj h (fun x_=>aZ [(1,vI part),(3,V.tp (bZ p)),(6,V.ref 20 0),(29,vB x_)] [(20,E.cells [V.t T.nilS,V.t T.nilS])] [20]) (fun j1 h=> ?_) (fun x5 h=> ?_)))
 ·
  obtain⟨x2,hx2,h⟩:=bd h
  refine aR h (fun c1 h=> ?_) (fun c1 h=> ?_)
  ·obtain⟨x3,hx3,h⟩:=bd h
   refine aR h (fun c2 h=> ?_) (fun c2 h=> ?_)
   ·refine aR h (fun c3 h=> ?_) (fun c3 h=> ?_)
    ·exact rk hC ([oV (cA G hx2)]++rF 3 c1++[oV (cG G hx3),oF c1,oF c1]++rF 3 c2++rF 5 c3++[oF c2,oF c3,oF c2]) (fr 10 20) [(29,vB false)] [] [] (lE h)
    ·obtain⟨x4,hx4,h⟩:=bd h
     exact rk hC ([oV (cA G hx2)]++rF 3 c1++[oV (cG G hx3),oF c1,oF c1]++rF 3 c2++rT 4 c3++[oV (oI G hx4),oT c3,oF c2,oT c3,oF c2]) (fr 10 20) [(29,vB (!x4))] [] [] (lE h)
   ·exact rk hC ([oV (cA G hx2)]++rF 3 c1++[oV (cG G hx3),oF c1,oF c1]++rT 5 c2) (fr 10 20) [(29,vB true)] [] [] (lE h)
  ·exact rk hC ([oV (cA G hx2)]++rT 5 c1++sT 5) (fr 10 20) [(29,vB true)] [] [] (lE h)
 ·refine aS h (fun c4 h=> ?_) (fun c4 h=> ?_)
  ·obtain rfl:=so h
   exact rq hC [] [7,8,30] [(7,V.t T.nilP),(8,vB false)] [(20,sc [V.t T.nilS,V.t T.nilS])] [] (qr eR)
  ·obtain⟨x6,hx6,x7,hx7,h⟩:=cT h
   obtain rfl:=so h
   cases hr
theorem R3{n_a0}{r}(h:qC n n_a0=some r):PQ G 29 [vI n_a0] (vB r):=by
 unfold qC at h
 refine pq aO Tryz.func29 rfl fun w X hC=> ?_
 refine rq hC [] [2] [] [] [] ?_
 obtain⟨x1,hx1,h⟩:=bd h
 obtain rfl:=so h
 exact rq hC [oV (bK G hx1)] [2,3,4] [(2,vB x1)] [] [] (qr eR)
theorem F7(G:GS)(n:Nat)(a:Affine)(c0__a1:Int){r:Affine}(h:gP n a c0__a1=some r):PQ G 31 [V.agg (aK a),V.tp [T.int .i64 c0__a1]] (V.agg (aK r)):=by
 unfold gP at h
 refine pq aO Tryz.func31 rfl fun w X hC=> ?_
 refine rq hC [.z (.b (true)),.z (.nat 20)] [2,3] [(2,V.tp (aY a)),(3,V.ref 20 0)] [(20,sc [V.t T.nilS,vI 0])] [(20,true)] (qs ?_)
 obtain⟨x1,hx1,x2,hx2,h⟩:=cT h
 obtain rfl:=so h
 exact dk hC bF [oC [] [21] (iX G hx1),.z (.at 2),.z (.fz 21 [6] []),oC [] [22] (G9 G hx2)] (fr 4 4) [] [(21,none),(22,some (ar 3 1 1 rI x2.coefs)),(20,sc [ms 22 1 1 rI x2.coefs,vI x2.const])] [(21,true),(22,true)] (qw (lk hC [.fz 22 [] [20]] [] [] [(20,some (E.cells (aK x2))),(22,none)] []) (qr eR))
theorem V8{p}{part}{loop}{by_}{r}(h:mF n p part loop by_=some r):PQ G 8 [V.agg (bQ p),vI part,vI loop,vI by_] (V.tup [V.agg (bQ r.1),vB r.2]):=by
 unfold mF at h
 refine pq aO Tryz.func8 rfl fun w X hC=> ?_
 refine rq hC [.z (.b (true)),.z (.b (true)),.z (.b (true)),.z (.nat 20)] [4,6,7,8,9] [(4,V.tp (bZ p)),(6,V.tp [T.int .i64 loop]),(7,V.tp [T.int .i64 by_]),(8,V.ref 20 0)] [(20,sc [V.t T.nilS,V.t T.nilS])] [(20,true)] (qs ?_)
 obtain⟨x1,hx1,h⟩:=bd h
 refine aR h (fun c1 h=> ?_) (fun c1 h=> ?_)
 ·refine rk hC [oV (tU G n p part loop hx1 c1),.z (.nat 21)] [10,11,12,14,15,16,17,18,19,20,21] [(10,V.ref 21 0),(11,V.t T.nilP),(12,vB false)] [(21,sc [vM aI [],vM aD []])] [(21,true)] (qs (rq hC (sT 7) (fr 22 11) [(32,vB true)] [] [] (sL (b:=true) (by kernel_rfl) (fun c2=> ?_) (fun c2=>by cases c2))))
  obtain rfl:=so h
  exact rq hC [] [9,33] [(9,vB false)] [(20,sc [V.t T.nilS,V.t T.nilS])] [] (qr eR)
 ·refine rk hC [oC [] [21,22] (tT G n p part loop hx1 c1),.z (.nat 23)] [10,11,12,14,15,16,17,18,19,20,21] [(10,V.ref 23 0),(11,V.eref 22 1 2 (0+Int.toNat part) 0),(12,vB true)] [(21,some (ar 77 1 2 aI x1.1.arrays)),(22,some (E.tree cK 0 1 (List.map aD x1.1.parts) [])),(23,sc [ms 21 1 2 aI x1.1.arrays,ms 22 1 2 aD x1.1.parts])] [(21,true),(22,true),(23,true)] (qs (vj h (fun x_=>aZ [(6,V.tp [T.int .i64 loop]),(7,V.tp [T.int .i64 by_]),(8,V.ref 20 0),(10,V.ref 23 0),(11,V.eref 22 1 2 (0+Int.toNat part) 0),(32,vB x_)] [(20,E.cells [V.t T.nilS,V.t T.nilS]),(21,ar 77 1 2 aI x1.1.arrays),(22,E.tree cK 0 1 (List.map aD x1.1.parts) []),(23,E.cells [ms 21 1 2 aI x1.1.arrays,ms 22 1 2 aD x1.1.parts])] [20,21,22,23]) (fun j2 h=> ?_) (fun x4 h=> ?_)))
  ·
   refine aR h (fun c2 h=> ?_) (fun c2 h=> ?_)
   ·obtain⟨x3,hx3,h⟩:=bd h
    exact rk hC [eF,eF,eF,oF c2,oF c2,oV (R3 G hx3),oF c2,oF c2] (fr 22 11) [(32,vB (!x3))] [] [] (lE h)
   ·exact rk hC ([eF,eF,eF]++rT 4 c2) (fr 22 11) [(32,vB true)] [] [] (lE h)
  ·refine aS h (fun c3 h=> ?_) (fun c3 h=> ?_)
   ·obtain rfl:=so h
    exact rq hC [] [9,33] [(9,vB false)] [(20,sc [V.t T.nilS,V.t T.nilS])] [] (qr eR)
   ·refine qk (qs ?_)
    obtain⟨x5,hx5,x6,hx6,x7,hx7,h⟩:=lW h
    obtain⟨x8,hx8,x10,hx10,h⟩:=cT h
    refine dk hC bF [.z (.foc 22 25 (0+Int.toNat part) 0 (aD x5)),oX aD hx5,oQ (lL aD hx5),oQ (jA aC hx6),oC [25] [] (mN G n x5.nest loop x6 hx6 1 31 [T.int .i64 by_] (fun q0=>gP n q0 by_) (fun q0 r h=>F7 G n q0 by_ h) hx7 hx8)] (fr 34 8) [] [(22,some (E.tree cK 0 1 (List.map aD x1.1.parts) [((0+Int.toNat part),0,ms 25 1 2 aC x5.nest)])),(25,some (E.tree cK 1 1 (List.map aC x8) []))] [(25,true),(25,true)] (qw (qS hC [.unf 22 25 (aD x5) (List.map aD x10)] [] [] [(25,none),(22,some (E.tree cK 0 1 (List.map aD x10) []))] [] (a4 (gR aC hx8) (Eq.refl cK) (lL aD hx5) (uV aD hx10 rfl)) (by kernel_rfl)) ?_)
    obtain⟨x9,hx9,h⟩:=bd h
    refine rq hC [oC [] [26] (iV G hx9),.z (.nat 27)] [13,42,43] [(13,V.ref 27 0)] [(26,some (ar 3 1 1 rI x9.coefs)),(27,sc [ms 26 1 1 rI x9.coefs,vI x9.const])] [(26,true),(27,true)] (rq hC [] [44,45,46] [] [(27,sc [ms 26 1 1 rI x9.coefs,vI (wr (0-by_))])] [] (qw (lk hC [.fz 26 [] [27],.fp 27 [13]] [13] [(13,V.tp [T.sl (List.map rI x9.coefs),T.int .i64 (wr (0-by_))])] [(26,none),(27,none)] []) ?_))
    obtain⟨x11,hx11,x12,hx12,h⟩:=cT h
    refine rq hC [oC [22] [] (mL G n x10 part (⟨x8,x5.body⟩:Part) (aDC hx10) 1 (wr (loop+1)) 36 [T.int .i64 loop] [T.sl (List.map rI x9.coefs),T.int .i64 (wr (0-by_))] (fun q0=>fI n q0 loop (⟨x9.coefs,wr (0-by_)⟩:Affine)) (fun q0 r h=>F6 G n q0 loop (⟨x9.coefs,wr (0-by_)⟩:Affine) h) hx11 hx12)] (fr 47 5) [] [(22,some (E.tree cK 0 1 (List.map aD x12) []))] [(22,true)] (qw (qS hC [.shd 22,.lenc 23 1 (List.map aD x12).length,.fz 21 [] [23],.fz 22 [] [23]] [] [] [(21,none),(22,none),(23,sc [vM aI x1.1.arrays,vM aD x12])] [] (a1 ((gR aD hx10).trans (gR aD hx12))) (by kernel_rfl)) ?_)
    obtain⟨x13,hx13,h⟩:=bd h
    obtain rfl:=so h
    exact rq hC [oV (rR G hx13)] [9,52,53,54,55] [(9,vB x13.2)] [(20,some (E.cells (bQ x13.1)))] [] (qr eR)
theorem A7{p}{x}{r}(h:iH n p x=some r):PQ G 140 [V.agg (bQ p),V.agg (aHY x)] (V.agg (dR r)):=by
 unfold iH at h
 refine pq aO Tryz.func140 rfl fun w X hC=> ?_
 refine rq hC [.z (.b (true)),.z (.b (true)),.z (.nat 20)] [2,3,4] [(2,V.tp (bZ p)),(3,V.tp (aGC x)),(4,V.ref 20 0)] [(20,sc [vS [],V.t T.nilS,vI 0,vI 0,V.t T.nilS,vI 0,vS [],V.t T.nilS,V.t T.nilS])] [(20,true)] (qs ?_)
 obtain⟨x1,hx1,x2,hx2,h⟩:=cT h
 obtain rfl:=so h
 exact dk hC bF [oR aD hx1,oR aH hx2] (fr 5 11) [] [(20,some (E.cells (dR x2)))] [] (qr eR)
theorem u4{p}{x}{r}(h:eY n p x=some r):VQ G 96 [] [V.agg (bQ p),V.agg (aHY x)] (V.tup [ms 0 1 1 rI r.1,vI r.2]) [ar 3 1 1 rI r.1]:=by
 unfold eY at h
 refine vq aO Tryz.func96 rfl fun w X β0 hC hg=> ?_
 refine rq hC [.z (.b (true)),.z (.b (true))] (fr 2 4) [(2,V.tp (bZ p)),(3,V.tp (aGC x))] [] [] ?_
 obtain⟨x1,hx1,h⟩:=bd h
 refine rq hC [oV (A7 G hx1),.z (.nat 20)] [6,10,11,12] [(6,V.ref 20 0)] [(20,some (E.cells (dR x1)))] [(20,true)] (rq hC [] [7] [(7,V.t T.nilS)] [] [] (qs ?_))
 obtain⟨x2,hx2,h⟩:=bd h
 refine rq hC [oC [] [21] (aAf G n x1.value hx2),oN aT x2] (fr 13 5) [(15,ms 21 1 2 aT x2),(16,vI (x2.length:Int)),(17,vI 0)] [(21,some (ar 82 1 2 aT x2))] [(21,true)] (qb (qw (lk hC [.grow 7 22 3] [7] [(7,ms 22 1 1 rI [])] [(22,some (ar 3 1 1 rI []))] [(22,true)]) (bD (γ:=Nat) h (fun x_ g_=>aZ [(2,V.tp (bZ p)),(3,V.tp (aGC x)),(6,V.ref 20 0),(7,ms 22 g_ 1 rI x_.1),(15,ms 21 1 2 aT x2),(16,vI (x2.length:Int)),(17,vI x_.2)] [(20,E.cells (dR x1)),(21,ar 82 1 2 aT x2),(22,ar 3 g_ 1 rI x_.1)] [20,21,22]) 1 (lS) ?_)))
 rintro again6 ⟨x3,x4⟩ g5 h
 refine rq hC [] [18] [(18,vB (decide (x4<(x2.length:Int))))] [] [] (qs (aS h (fun c1 h=> ?_) (fun c1 h=> ?_)))
 ·refine qk (qs (qb ?_))
  obtain⟨x7,hx7,h⟩:=bd h
  refine rq hC [oQ (jA aT hx7),oX aT hx7,.z (.nat 23)] [9,19,20] [(9,V.ref 23 0)] [(23,some (E.cells (cW x7)))] [(23,true)] ?_
  obtain⟨x8,hx8,x9,hx9,h⟩:=cT h
  exact rk hC [oV (fT G hx8),.z (.int 0),oA (aP rI hx9),oQ (b6 (r:=rI) 1 (fun _=>rfl) x3),oQ (b6 (r:=rI) 1 (fun _=>rfl) [x8])] [7,21,22,23,24,25,26,27,28] [(7,ms 22 (g5+1) 1 rI x9)] [(22,some (ar 3 (g5+1) 1 rI x9))] [] (rk hC [] [17,29] [(17,vI (wr (x4+1)))] [] [] ⟨(x9,wr (x4+1)),(g5+1),h,lS⟩)
 ·refine cV ?_
  obtain⟨x10,hx10,h⟩:=bd h
  obtain rfl:=so h
  exact rq hC [oV (fT G hx10)] [4,5,30,31,32,33,34,35,36] [(4,ms 22 g5 1 rI x3),(5,vI x10)] [] [] (qw (lk hC [.ren 4 22 0] [4] [(4,ms 0 1 1 rI x3)] [(0,some (ar 3 1 1 rI x3)),(22,none)] [(0,true)]) (qr eW))
theorem aAd{p}{r}(h:xR n p=some r):PQ G 53 [V.agg (bQ p)] (V.tup [vP aIZ r.1,vB r.2]):=by
 unfold xR at h
 refine pmr aO Tryz.func53 rfl rfl rfl rfl rfl (aL5 _ _ _) rfl ?_
 intro w X hC
 refine rq hC [.z (.b (true))] [1,2,3] [(1,V.tp (bZ p))] [] [] ?_
 obtain⟨x1,hx1,h⟩:=bd h
 refine rq hC [oC [] [20] (lB G hx1)] [4,5,11,12,13,14,15] [(4,ms 20 1 3 bA x1.1),(5,vB x1.2)] [(20,some (ar 135 1 3 bA x1.1))] [(20,true)] (qs (rq hC [] [16,17] [(17,vB (!x1.2))] [] [] (aS h (fun c1 h=> ?_) (fun c1 h=> ?_))))
 ·obtain rfl:=so h
  exact rq hC [] [2,3] [(2,V.t T.nilP),(3,vB false)] [] [] (qr eR)
 ·refine qk (rq hC [.z (.nat 21)] [6,18,19,20,21] [(6,V.ref 21 0)] [(21,sc [vM aI p.arrays,vM aD p.parts,ms 20 1 3 bA x1.1,V.t T.nilS,V.t T.nilS])] [(21,true)] (qs (rq hC [oN bA x1.1] [22,23,24] [(22,ms 20 1 3 bA x1.1),(23,vI (x1.1.length:Int)),(24,vI 0)] [] [] (qb (qw (lk hC [.growc 21 3 22 33] [] [] [(22,some (ar 33 1 1 (rL rI) [])),(21,sc [vM aI p.arrays,vM aD p.parts,ms 20 1 3 bA x1.1,ms 22 1 1 (rL rI) [],V.t T.nilS])] [(22,true)]) ?_)))))
  refine qw (lk hC [.growc 21 4 23 3] [] [] [(23,some (ar 3 1 1 rI [])),(21,sc [vM aI p.arrays,vM aD p.parts,ms 20 1 3 bA x1.1,ms 22 1 1 (rL rI) [],ms 23 1 1 rI []])] [(23,true)]) (bD (γ:=Nat×Nat) h (fun x_ g_=>aZ [(1,V.tp (bZ p)),(6,V.ref 21 0),(22,ms 20 1 3 bA x1.1),(23,vI (x1.1.length:Int)),(24,vI x_.2.2)] [(20,ar 135 1 3 bA x1.1),(21,E.cells [vM aI p.arrays,vM aD p.parts,ms 20 1 3 bA x1.1,ms 22 g_.1 1 (rL rI) x_.1,ms 23 g_.2 1 rI x_.2.1]),(22,ar 33 g_.1 1 (rL rI) x_.1),(23,ar 3 g_.2 1 rI x_.2.1)] [20,21,22,23]) (1,1) (lS) ?_)
  rintro again7 ⟨x2,x3,x4⟩ ⟨g5,g6⟩ h
  refine rq hC [] [25] [(25,vB (decide (x4<(x1.1.length:Int))))] [] [] (qs (aS h (fun c2 h=> ?_) (fun c2 h=> ?_)))
  ·refine qk (qs (qb ?_))
   obtain⟨x8,hx8,h⟩:=bd h
   refine rq hC [oQ (jA bA hx8),oX bA hx8,.z (.nat 24)] [8,26,27] [(8,V.ref 24 0)] [(24,some (E.cells (aHY x8)))] [(24,true)] ?_
   obtain⟨x9,hx9,h⟩:=bd h
   refine rq hC [oC [] [25] (u4 G hx9)] [9,10,28,29,30,31,32,33] [(9,ms 25 1 1 rI x9.1),(10,vI x9.2)] [(25,some (ar 3 1 1 rI x9.1))] [(25,true)] ?_
   obtain⟨x10,hx10,x11,hx11,h⟩:=cT h
   exact dk hC bF [.z (.at 15),.z (.fz 25 [9,40] []),.z (.int 0),oA (aP (rL rI) hx10),.z (.int 0),oQ (b6 (r:=(rL rI)) 1 (fun _=>rfl) x2),oQ (b6 (r:=(rL rI)) 1 (fun _=>rfl) [x9.1]),oA (aP rI hx11),oQ (b6 (r:=rI) 1 (fun _=>rfl) x3),oQ (b6 (r:=rI) 1 (fun _=>rfl) [x9.2])] [9,34,35,36,37,38,39,40,41,42,43,44,45,46,47,48,49,50,51,52,53] [] [(25,none),(22,some (ar 33 (g5+1) 1 (rL rI) x10)),(23,some (ar 3 (g6+1) 1 rI x11)),(21,sc [vM aI p.arrays,vM aD p.parts,ms 20 1 3 bA x1.1,ms 22 (g5+1) 1 (rL rI) x10,ms 23 (g6+1) 1 rI x11])] [] (rk hC [] [24,54] [(24,vI (wr (x4+1)))] [] [] ⟨(x10,x11,wr (x4+1)),((g5+1),(g6+1)),h,lS⟩)
  ·obtain rfl:=so h
   exact cV (rq hC [] [2,3,55] [(2,V.ref 21 0),(3,vB true)] [] [] (qw (lk hC [.fz 20 [22] [21],.fz 22 [] [21],.fz 23 [] [21],.fp 21 [2,6]] [2,6,22] [(2,V.tp [T.sl (List.map aI p.arrays),T.sl (List.map aD p.parts),T.sl (List.map bA x1.1),T.sl (List.map (rL rI) x2),T.sl (List.map rI x3)]),(6,V.tp [T.sl (List.map aI p.arrays),T.sl (List.map aD p.parts),T.sl (List.map bA x1.1),T.sl (List.map (rL rI) x2),T.sl (List.map rI x3)]),(22,vM bA x1.1)] [(21,none),(20,none),(22,none),(23,none)] []) (qr eR)))
theorem E8{p}{r}(h:jD n p=some r):VQ G 161 [] [V.agg (bQ p)] (ms 0 1 3 bA r) [ar 135 1 3 bA r]:=by
 unfold jD at h
 refine vq aO Tryz.func161 rfl fun w X β0 hC hg=> ?_
 refine rq hC [.z (.b (true))] [1,2] [(1,V.tp (bZ p))] [] [] (rq hC [.z (.nat 20)] [3,8] [(3,ms 20 1 3 bA [])] [(20,some (ar 135 1 3 bA []))] [(20,true)] (qs (rq hC [] [4] [(4,vI 0)] [] [] (qb (bD (γ:=Nat) h (fun x_ g_=>aZ [(1,V.tp (bZ p)),(3,ms 20 g_ 3 bA x_.1),(4,vI x_.2)] [(20,ar 135 g_ 3 bA x_.1)] [20]) 1 (lS) ?_)))))
 rintro again4 ⟨x1,x2⟩ g3 h
 refine qs (rq hC [oN aD p.parts] (fr 9 5) [(13,vB (decide (x2<(p.parts.length:Int))))] [] [] (aS h (fun c1 h=> ?_) (fun c1 h=> ?_)))
 ·refine qk (qs (qb ?_))
  obtain⟨x5,hx5,x6,hx6,h⟩:=cT h
  refine rq hC [.z (.nat 21),oR aD hx5,oC [21] [] (yF G n [] 1 x5.nest [] hx6)] [5,16,17,18,19,20,21,22,23] [(5,ms 21 2 1 (rL rI) x6)] [(21,some (ar 33 2 1 (rL rI) x6))] [(21,true),(21,true)] (rq hC [] [6] [(6,vI 0)] [] [] (qb (bD (γ:=Nat) h (fun x_ g_=>aZ [(1,V.tp (bZ p)),(3,ms 20 g_ 3 bA x_.1),(4,vI x2),(5,ms 21 2 1 (rL rI) x6),(6,vI x_.2)] [(20,ar 135 g_ 3 bA x_.1),(21,ar 33 2 1 (rL rI) x6)] [20,21]) g3 (lS) ?_)))
  rintro again10 ⟨x7,x8⟩ g9 h
  refine qs (rq hC [oN (rL rI) x6] (fr 24 4) [(27,vB (decide (x8<(x6.length:Int))))] [] [] (aS h (fun c2 h=> ?_) (fun c2 h=> ?_)))
  ·refine qk (qs (qb (rq hC [] [7] [(7,vI 0)] [] [] (qb (bD (γ:=Nat) h (fun x_ g_=>aZ [(1,V.tp (bZ p)),(3,ms 20 g_ 3 bA x_.1),(4,vI x2),(5,ms 21 2 1 (rL rI) x6),(6,vI x8),(7,vI x_.2)] [(20,ar 135 g_ 3 bA x_.1),(21,ar 33 2 1 (rL rI) x6)] [20,21]) g9 (lS) ?_)))))
   rintro again14 ⟨x11,x12⟩ g13 h
   refine qs (rq hC [oR aD hx5,oN aH x5.body] (fr 30 9) [(38,vB (decide (x12<(x5.body.length:Int))))] [] [] (aS h (fun c3 h=> ?_) (fun c3 h=> ?_)))
   ·refine qk (qs (qb ?_))
    obtain⟨x15,hx15,x16,hx16,x17,hx17,h⟩:=lW h
    exact rk hC [.z (.nat 22),oQ (jA (rL rI) hx15),oX (rL rI) hx15,oA (aP rI hx16),.z (.at 4),.z (.fz 22 [49] []),.z (.int 0),oQ (b6 (r:=rI) 1 (fun _=>rfl) []),oQ (b6 (r:=rI) 1 (fun _=>rfl) x15),oA (aP bA hx17),oQ (b6 (r:=bA) 3 uH x11),oQ (b6 (r:=bA) 3 uH [(⟨x2,x12,x16⟩:Inst)])] [3,41,42,43,44,45,46,47,48,49,50,51,52] [(3,ms 20 (g13+1) 3 bA x17)] [(22,none),(20,some (ar 135 (g13+1) 3 bA x17))] [(22,true)] (rk hC [] [7,39,40] [(7,vI (wr (x12+1)))] [] [] ⟨(x17,wr (x12+1)),(g13+1),h,lS⟩)
   ·exact cV (rk hC [] [6,28,29] [(6,vI (wr (x8+1)))] [] [] ⟨(x11,wr (x8+1)),g13,h,lS⟩)
  ·exact cV (rk hC [] [4,14,15] [(4,vI (wr (x2+1)))] [] [] ⟨(x7,wr (x2+1)),g9,h,lS⟩)
 ·obtain rfl:=so h
  exact cV (rq hC [] [2,53] [(2,ms 20 g3 3 bA x1)] [] [] (qw (lk hC [.ren 2 20 0] [2] [(2,ms 0 1 3 bA x1)] [(0,some (ar 135 1 3 bA x1)),(20,none)] [(0,true)]) (qr eW)))
theorem aD5{p}{r}(h:sU n p=some r):VQ G 121 [] [V.agg (bQ p)] (ms 0 1 2 d8 r) [ar 160 1 2 d8 r]:=by
 unfold sU at h
 refine vq aO Tryz.func121 rfl fun w X β0 hC hg=> ?_
 refine rq hC [.z (.b (true))] [1,2] [(1,V.tp (bZ p))] [] [] (rq hC [.z (.nat 20)] [3,9] [(3,ms 20 1 2 d8 [])] [(20,some (ar 160 1 2 d8 []))] [(20,true)] ?_)
 obtain⟨x1,hx1,h⟩:=bd h
 refine rq hC [oC [] [21] (E8 G hx1)] [4,10,11] [(4,ms 21 1 3 bA x1)] [(21,some (ar 135 1 3 bA x1))] [(21,true)] (qs (rq hC [] [5] [(5,vI 0)] [] [] (qb (bD (γ:=Nat) h (fun x_ g_=>aZ [(1,V.tp (bZ p)),(3,ms 20 g_ 2 d8 x_.1),(4,ms 21 1 3 bA x1),(5,vI x_.2)] [(20,ar 160 g_ 2 d8 x_.1),(21,ar 135 1 3 bA x1)] [20,21]) 1 (lS) ?_))))
 rintro again5 ⟨x2,x3⟩ g4 h
 refine qs (rq hC [oN bA x1] (fr 12 4) [(15,vB (decide (x3<(x1.length:Int))))] [] [] (aS h (fun c1 h=> ?_) (fun c1 h=> ?_)))
 ·refine qk (qs (qb (qs ?_)))
  obtain⟨x6,hx6,x7,hx7,x8,hx8,h⟩:=lW h
  obtain⟨x9,hx9,h⟩:=bd h
  refine dk hC bF [oQ (jA bA hx6),oX bA hx6,oR aD hx7,oQ (jA bA hx6),oX bA hx6,oR aH hx8,oQ (jA bA hx6),oX bA hx6,oC [] [22] (D3 G hx9)] [6,7,8,18,19,20,21,22,23,24,25,26,27,28,29,30,31,32,33,34,35,36,37,38,39,40,41,42,43,44,45,46] [(6,ms 22 1 1 rI x9.1),(7,vI x9.2.1)] [(22,some (ar 3 1 1 rI x9.1))] [(22,true)] ?_
  obtain⟨x10,hx10,h⟩:=bd h
  exact rk hC [.z (.at 4),.z (.fz 22 [6,48] []),.z (.int 0),oA (aP d8 hx10),oQ (b6 (r:=d8) 2 K2 x2),oQ (b6 (r:=d8) 2 K2 [(⟨x9.1,x9.2.1⟩:L6Use)])] [3,6,47,48,49,50,51,52] [(3,ms 20 (g4+1) 2 d8 x10)] [(22,none),(20,some (ar 160 (g4+1) 2 d8 x10))] [] (rk hC [] [5,16,17] [(5,vI (wr (x3+1)))] [] [] ⟨(x10,wr (x3+1)),(g4+1),h,lS⟩)
 ·obtain rfl:=so h
  exact cV (rq hC [] [2,53] [(2,ms 20 g4 2 d8 x2)] [] [] (qw (lk hC [.ren 2 20 0] [2] [(2,ms 0 1 2 d8 x2)] [(0,some (ar 160 1 2 d8 x2)),(20,none)] [(0,true)]) (qr eW)))
theorem aJq{α:Type}(f:α→List T){l x:List α}{o m:Nat}(ho:o<l.length)(hm:m=l.length-o):o+m≤(l.map f).length∧(aCp l o x).map f=(l.map f).take o++(x.map f).take (Nat.min (x.map f).length m)++(l.map f).drop (o+Nat.min (x.map f).length m):=by
 subst hm
 refine⟨by rw [List.length_map];omega,?_⟩
 unfold aCp
 rw [List.map_append,List.map_append,List.map_take,List.map_take,List.map_drop,List.length_map]
theorem aCo{α:Type}(f:α→List T){l x:List α}{o:Nat}(ho:o<l.length):(l.map f).length=((aCp l o x).map f).length:=by
 unfold aCp
 simp only [List.length_map,List.length_append,List.length_take,List.length_drop]
 have:Nat.min x.length (l.length-o)=min x.length (l.length-o):=rfl
 omega
theorem F5(G:GS)(n:Nat)(a:Affine)(loop:Int){r:Affine}(h:fH n a loop=some r):PQ G 64 [V.agg (aK a),V.tp [T.int .i64 loop]] (V.agg (aK r)):=by
 unfold fH at h
 refine pq aO Tryz.func64 rfl fun w X hC=> ?_
 refine rq hC [.z (.b (true)),.z (.nat 20)] [2,3] [(2,V.tp (aY a)),(3,V.ref 20 0)] [(20,sc [V.t T.nilS,vI 0])] [(20,true)] ?_
 obtain⟨x1,hx1,h⟩:=bd h
 refine rq hC [oC [] [21] (mV G hx1),.z (.nat 22)] [4,5,6] [(4,V.ref 22 0)] [(21,some (ar 3 1 1 rI x1.coefs)),(22,sc [ms 21 1 1 rI x1.coefs,vI x1.const])] [(21,true),(22,true)] (t8 (decide ((0:Int)≤wr (loop+1))) (fun c1=> ?_) (fun c1=> ?_))
 ·have h:=bf c1 h
  exact nof h
 have h:=bt c1 h
 refine t8 (decide (wr (loop+1)<(x1.coefs.length:Int))) (fun c2=> ?_) (fun c2=> ?_)
 ·have h:=bf c2 h
  exact nof h
 have h:=bt c2 h
 have g0:=of_decide_eq_true c1
 have g1:=of_decide_eq_true c2
 obtain⟨x2,hx2,x4,hx4,x3,hx3,h⟩:=lW h
 obtain rfl:=so h
 exact qs (dk hC bF [.z (.nat (wr (loop+1)).toNat),.z (.nat (x1.coefs.length-(wr (loop+1)).toNat)),oQ (aGo rI x1.coefs g0 g1),oA (aGD rI hx2),.z (.rows (List.map rI (aCp x1.coefs (wr (loop+1)).toNat x2))),.z (.nat (Nat.min (List.map rI x2).length (x1.coefs.length-(wr (loop+1)).toNat))),oQ (b6 (r:=rI) 1 (fun _=>rfl) a.coefs),oQ (b6 (r:=rI) 1 (fun _=>rfl) x2),oQ (aJq rI (l:=x1.coefs) (x:=x2) (o:=(wr (loop+1)).toNat) (m:=x1.coefs.length-(wr (loop+1)).toNat) (by omega) rfl)] (fr 7 10) [] [(21,some (ar 3 1 1 rI (aCp x1.coefs (wr (loop+1)).toNat x2)))] [] (rq hC [oQ (aL9 rI hx4 (aCo rI (l:=x1.coefs) (x:=x2) (o:=(wr (loop+1)).toNat) (by omega))),oX rI hx4,.z (.rows (List.map rI x3)),.z (.lenc 22 0 (List.map rI x3).length),oQ (str rI hx3),oQ ((aCo rI (l:=x1.coefs) (x:=x2) (o:=(wr (loop+1)).toNat) (by omega)).trans (gR rI hx3))] (fr 17 4) [] [(21,some (ar 3 1 1 rI x3)),(22,sc [ms 21 1 1 rI x3,vI x1.const])] [] (qw (lk hC [.fz 21 [] [22]] [] [] [(21,none),(22,sc [vM rI x3,vI x1.const])] []) (rq hC [] [21] [] [(20,sc [vM rI x3,vI x1.const])] [] (qr eR)))))
open Go.RowKit Go.Lib in
set_option maxHeartbeats 4000000 in
set_option maxRecDepth 100000 in
theorem U0(b n c i vb m vc:Nat)(cs vs:List Value)(w:World)(hi:i<n)(hm:0<m)(hroom:n+m≤c)(hc63:c≤9223372036854775807)(hvb:vb≠b)
  (hcl:cs.length=n*2) (hvl:vs.length=m*2)
  (hcs: ∀j v,cs[j]? =some v→w.cell? ⟨b,j,none⟩=some v) (hsp: ∀j,j<(n+m)*2→(w.cell? ⟨b,j,none⟩).isSome=true) (hfz: ∀j,w.frozen? ⟨b,j,none⟩=false)
  (hvs: ∀j v,vs[j]? =some v→w.cell? ⟨vb,j,none⟩=some v) (h1c: ∀v∈cs,v.oneCell'=true) (h1v: ∀v∈vs,v.oneCell'=true)
  (tA tB:TypeId) (kA kB:Nat) (hsa:w.shape? vb=some (tA,kA)) (hsb:w.shape? b=some (tB,kB)) (hkB:kB≠0) (hfa: ∀j,w.frozen? ⟨vb,j,none⟩=false):
  Calls Tryz.prog 66 #[.slice (some ⟨b,0,none⟩) n c,.int .i64 i,.slice (some ⟨vb,0,none⟩) m vc] w fun e w'=>
   e= .returned (.slice (some ⟨b,0,none⟩) (n+m) c)∧w'=(w.drew.setCells b ((i+m)*2) (cs.drop (i*2))).setCells b (i*2) vs:=by
 have hz1: ¬((m:Int)=0):=by omega
 have hz2: ¬((i:Int)=(n:Int)):=by omega
 have hw1:IntKind.i64.wrap ((i:Int)+(m:Int))=(i:Int)+(m:Int):=by rw [IntKind.wrap_i64];omega
 have hb1:(0:Int)≤(i:Int)+(m:Int):=by omega
 have hin:i≤n:=by omega
 have htn:((i:Int)+(m:Int)).toNat=i+m:=by omega
 have hb2: ¬(c=i+m):=by omega
 have hb3:(i:Int)≤(n:Int)+(m:Int):=by omega
 have hb4: ¬(c=i):=by omega
 have hov: ∀lb cb,(callFunc 107 #[.slice (some ⟨vb,0,none⟩) m vc,.slice (some ⟨b,(i+m)*2,none⟩) lb cb]).run Tryz.prog w= .ok (.value (.bool false)) w:=fun lb cb=>by
  rw [run_callFunc_extern Tryz.func107 (by kernel_rfl) (by kernel_rfl) (by kernel_rfl) (e:=Extern.SlicesOverlaps.overlaps #[59,59] #[4]) (by kernel_rfl),
   Lib.run_overlaps_apart w 59 4 58 Tryz.underlying59 2 Tryz.sizeOf58 ⟨vb,0,none⟩ ⟨b,(i+m)*2,none⟩ m vc lb cb hvb tA tB kA kB hsa hsb hkB (hfa 0) (hfa kA)]
  rfl
 have hdl:(cs.drop (i*2)).length=(n-i)*2:=by rw [List.length_drop,hcl];omega
 have hsz:(Tryz.prog.info? 58).map (·.size)=some 2:=by kernel_rfl
 have hcp1: ∀ty dc sc,(Builtin.copy_ #[59,59] ty #[.slice (some ⟨b,(i+m)*2,none⟩) (n+m-(i+m)) dc,.slice (some ⟨b,i*2,none⟩) (n+m-i) sc]).run Tryz.prog w.drew= .ok (goInt ((n-i:Nat):Int)) (w.drew.setCells b ((i+m)*2) (cs.drop (i*2))):=fun ty dc sc=>
  uD w.drew 59 59 ty 58 2 b ((i+m)*2) (n+m-(i+m)) dc ⟨b,i*2,none⟩ (n+m-i) sc (n-i) (cs.drop (i*2)) Tryz.underlying59 hsz (by simp only [Nat.min_def];split<;>omega) hdl
   (fun j v hj=>by rw [Addr.add_lit];exact hcs (i*2+j) v (by rwa [List.getElem?_drop] at hj))
   (fun j hj=>hsp _ (by omega)) (fun j hj=>hfz _) (fun v hv=>h1c v (List.mem_of_mem_drop hv))
 obtain⟨W1,hW1⟩: ∃W1,W1=w.drew.setCells b ((i+m)*2) (cs.drop (i*2)):=⟨_,rfl⟩
 have hsp1: ∀k,k<(n+m)*2→(W1.cell? ⟨b,k,none⟩).isSome=true:=fun k hk=>by
  rw [hW1]
  exact pY b (cs.drop (i*2)) ((i+m)*2) w.drew (fun j hj=>hsp _ (by rw [hdl] at hj;omega)) k (hsp k hk)
 have hcp2: ∀(W:World),(∀x,W.cell? x=W1.cell? x)→(∀x,W.frozen? x=W1.frozen? x)→ ∀ty dc,(Builtin.copy_ #[59,59] ty #[.slice (some ⟨b,i*2,none⟩) (n+m-i) dc,.slice (some ⟨vb,0,none⟩) m vc]).run Tryz.prog W= .ok (goInt m) (W.setCells b (i*2) vs):=fun W hWc hWf ty dc=>
  uD W 59 59 ty 58 2 b (i*2) (n+m-i) dc ⟨vb,0,none⟩ m vc m vs Tryz.underlying59 hsz (by simp only [Nat.min_def];split<;>omega) hvl
   (fun j v hj=>by
    rw [Addr.add_lit,Nat.zero_add,hWc,hW1,World.cell?_setCells_out b _ _ _ _ (fun h _=>absurd h hvb)]
    exact hvs j v hj)
   (fun j hj=>by rw [hWc];exact hsp1 _ (by omega)) (fun j hj=>by rw [hWf,hW1,World.frozen?_setCells];exact hfz _) h1v
 rw [←hW1] at hcp1
 go_enter Tryz.func66,Tryz.ntmps66
 go_wp2_with (simp only [hov])
 go_region_law (refine sM rfl _ _ 59 59 rfl _ _ (by simp [Act.eval,Act.put]) (by simp [Act.eval,Act.put]) (hcp1 _ _ _) ?_)
 go_wp2_with (at_builtin;refine lC _ rfl _ _ 59 59 rfl _ _ rfl rfl (hcp2 _ (fun _=>rfl) (fun _=>rfl) _ _) ?_)
 go_ret
 first|exact⟨rfl,rfl⟩|exact⟨rfl,by rw [hW1]⟩
open Go.RowKit Go.Lib in
set_option maxHeartbeats 4000000 in
set_option maxRecDepth 100000 in
theorem U2(b n c i vb m vc:Nat)(cs vs:List Value)(w:World)(hi:i<n)(hm:0<m)(hnc:n≤c)(hroom:c<n+m)(i0:TypeInfo)(z:Value)(hi0:Tryz.prog.info? 58=some i0)(hz0:i0.zero=some z)(hzs:i0.size=2)(hzc:z.cells.size=2)(hle:n+m≤1000000000)(hbig:(n+m)*i0.bytes≤140737488355328)
  (hcl:cs.length=n*2) (hvl:vs.length=m*2)
  (hcs: ∀j v,cs[j]? =some v→w.cell? ⟨b,j,none⟩=some v)
  (hvs: ∀j v,vs[j]? =some v→w.cell? ⟨vb,j,none⟩=some v) (h1c: ∀v∈cs,v.oneCell'=true) (h1v: ∀v∈vs,v.oneCell'=true):
  Calls Tryz.prog 66 #[.slice (some ⟨b,0,none⟩) n c,.int .i64 i,.slice (some ⟨vb,0,none⟩) m vc] w fun e w'=>
   e= .returned (.slice (some ⟨w.heap.size,0,none⟩) (n+m) (grownCap w (n+m) c 58))∧
   w'=(((w.alloc (.cells ((cs.take (i*2)).toArray++Builtin.zeroCells z.cells (n+m-i)++Builtin.zeroCells z.cells (grownCap w (n+m) c 58-(n+m))) 58)).drew.setCells w.heap.size (i*2) vs).drew).setCells w.heap.size ((i+m)*2) (cs.drop (i*2)):=by
 have hz1: ¬((m:Int)=0):=by omega
 have hz2: ¬((i:Int)=(n:Int)):=by omega
 have hz3:(c:Int)<(n:Int)+(m:Int):=by omega
 have hsz:(Tryz.prog.info? 58).map (·.size)=some 2:=by rw [hi0];simp [hzs]
 have hbw:b<w.heap.size:=block_lt_of_cell (hcs 0 _ (List.getElem?_eq_getElem (by omega)))
 have hvw:vb<w.heap.size:=block_lt_of_cell (hvs 0 _ (List.getElem?_eq_getElem (by omega)))
 have hkk:(n:Int)+(m:Int)-(i:Int)=((n+m-i:Nat):Int):=by omega
 have hik:i+(n+m-i)=n+m:=by omega
 have hold:(Builtin.firstCells i0.size i (.slice (some ⟨b,0,none⟩) i c)).run Tryz.prog w.drew= .ok (cs.take (i*2)).toArray w.drew:=by
  rw [hzs]
  exact run_firstCells_some w.drew 2 i ⟨b,0,none⟩ i c (cs.take (i*2)) (by rw [List.length_take];omega) (fun j v hj=>by
   rw [Addr.add_lit,Nat.zero_add]
   rw [List.getElem?_take] at hj
   split at hj
   ·exact hcs j v hj
   ·cases hj)
 have hrz: ∀ty,(Builtin.append_ #[59,3] ty #[.slice (some ⟨b,0,none⟩) i c,.int .i64 ((n:Int)+(m:Int)-(i:Int))]).run Tryz.prog w=
   .ok (.slice (some ⟨w.heap.size,0,none⟩) (n+m) (grownCap w (n+m) c 58)) (w.drew.alloc (.cells ((cs.take (i*2)).toArray++Builtin.zeroCells z.cells (n+m-i)++Builtin.zeroCells z.cells (grownCap w (n+m) c 58-(n+m))) 58)):=fun ty=>by
  have h:=Lib.run_append_grow_zeros w 59 3 ty 58 i0 z .i64 .i64 Tryz.underlying59 Tryz.underlying3 hi0 hz0 (some ⟨b,0,none⟩) i c (cs.take (i*2)) hold (n+m-i) (by omega) (by omega) (by omega) (by omega) (by
   have:=Nat.mul_le_mul_right i0.bytes (show n+m-i≤n+m by omega)
   omega) (by rw [hik];exact growslice_fits hroom hbig)
  rw [hik] at h
  rw [hkk]
  exact h
 obtain⟨G,hG⟩: ∃G,G=grownCap w (n+m) c 58:=⟨_,rfl⟩
 obtain⟨ROW,hROW⟩: ∃ROW:Array Value,ROW=(cs.take (i*2)).toArray++Builtin.zeroCells z.cells (n+m-i)++Builtin.zeroCells z.cells (G-(n+m)):=⟨_,rfl⟩
 rw [←hG] at hrz⊢
 rw [←hROW] at hrz⊢
 have hRl:(n+m)*2≤ROW.size:=by
  rw [hROW]
  simp [Builtin.zeroCells,hzc]
  omega
 obtain⟨W1,hW1⟩: ∃W1,W1=w.drew.alloc (.cells ROW 58):=⟨_,rfl⟩
 rw [←hW1] at hrz
 have hN: ∀j,j<(n+m)*2→(W1.cell? ⟨w.heap.size,j,none⟩).isSome=true:=fun j hj=>by
  rw [hW1,World.cell?_alloc_at (w:=w.drew) ROW _ w.heap.size j rfl,Array.getElem?_eq_getElem (by omega)];rfl
 have hNf: ∀j,W1.frozen? ⟨w.heap.size,j,none⟩=false:=fun j=>by rw [hW1];exact World.frozen?_alloc_at (w:=w.drew) ROW _ w.heap.size j rfl
 have hOb: ∀j v,w.cell? ⟨b,j,none⟩=some v→W1.cell? ⟨b,j,none⟩=some v:=fun j v h=>by rw [hW1,World.cell?_alloc_past (w:=w.drew) _ b j hbw];exact h
 have hOv: ∀j v,w.cell? ⟨vb,j,none⟩=some v→W1.cell? ⟨vb,j,none⟩=some v:=fun j v h=>by rw [hW1,World.cell?_alloc_past (w:=w.drew) _ vb j hvw];exact h
 have hcpA: ∀(W:World),(∀x,W.cell? x=W1.cell? x)→(∀x,W.frozen? x=W1.frozen? x)→ ∀ty dc,(Builtin.copy_ #[59,59] ty #[.slice (some ⟨w.heap.size,i*2,none⟩) (n+m-i) dc,.slice (some ⟨vb,0,none⟩) m vc]).run Tryz.prog W= .ok (goInt m) (W.setCells w.heap.size (i*2) vs):=fun W hWc hWf ty dc=>
  uD W 59 59 ty 58 2 w.heap.size (i*2) (n+m-i) dc ⟨vb,0,none⟩ m vc m vs Tryz.underlying59 hsz (by simp only [Nat.min_def];split<;>omega) hvl
   (fun j v hj=>by rw [Addr.add_lit,Nat.zero_add,hWc];exact hOv _ v (hvs j v hj))
   (fun j hj=>by rw [hWc];exact hN _ (by omega)) (fun j hj=>by rw [hWf];exact hNf _) h1v
 have hGn:n+m≤G:=by rw [hG];exact grownCap_ge w _ _ _
 have hG63:G≤9223372036854775807:=by
  have:=grownCap_le_maxLen w (n+m) c 58 (by unfold maxLen;omega)
  rw [←hG] at this
  unfold maxLen at this
  omega
 have hGi: ¬(G=i):=by omega
 have hGim: ¬(G=i+m):=by omega
 have hci: ¬(c=i):=by omega
 have hbN:b≠w.heap.size:=by omega
 have hdl:(cs.drop (i*2)).length=(n-i)*2:=by rw [List.length_drop,hcl];omega
 have hcpB: ∀(W:World),(∀x,W.cell? x=(W1.setCells w.heap.size (i*2) vs).cell? x)→(∀x,W.frozen? x=(W1.setCells w.heap.size (i*2) vs).frozen? x)→ ∀ty dc sc,(Builtin.copy_ #[59,59] ty #[.slice (some ⟨w.heap.size,(i+m)*2,none⟩) (n+m-(i+m)) dc,.slice (some ⟨b,i*2,none⟩) (n-i) sc]).run Tryz.prog W= .ok (goInt ((n-i:Nat):Int)) (W.setCells w.heap.size ((i+m)*2) (cs.drop (i*2))):=fun W hWc hWf ty dc sc=>
  uD W 59 59 ty 58 2 w.heap.size ((i+m)*2) (n+m-(i+m)) dc ⟨b,i*2,none⟩ (n-i) sc (n-i) (cs.drop (i*2)) Tryz.underlying59 hsz (by simp only [Nat.min_def];split<;>omega) hdl
   (fun j v hj=>by
    rw [Addr.add_lit,hWc,World.cell?_setCells_out _ _ _ _ _ (fun h _=>absurd h hbN)]
    exact hOb _ v (hcs (i*2+j) v (by rwa [List.getElem?_drop] at hj)))
   (fun j hj=>by rw [hWc];exact pY w.heap.size vs (i*2) W1 (fun t ht=>hN _ (by rw [hvl] at ht;omega)) _ (hN _ (by rw [hdl] at hj;omega)))
   (fun j hj=>by rw [hWf,World.frozen?_setCells];exact hNf _) (fun v hv=>h1c v (List.mem_of_mem_drop hv))
 subst hW1
 have hE1: ∀x,((w.alloc (.cells ROW 58)).drew).cell? x=(w.drew.alloc (.cells ROW 58)).cell? x:=fun x=>rfl
 have hE2: ∀x,((w.alloc (.cells ROW 58)).drew).frozen? x=(w.drew.alloc (.cells ROW 58)).frozen? x:=fun x=>rfl
 have hF1: ∀x,(((w.alloc (.cells ROW 58)).drew.setCells w.heap.size (i*2) vs).drew).cell? x=((w.drew.alloc (.cells ROW 58)).setCells w.heap.size (i*2) vs).cell? x:=fun x=>rfl
 have hF2: ∀x,(((w.alloc (.cells ROW 58)).drew.setCells w.heap.size (i*2) vs).drew).frozen? x=((w.drew.alloc (.cells ROW 58)).setCells w.heap.size (i*2) vs).frozen? x:=fun x=>rfl
 have hw1:IntKind.i64.wrap ((i:Int)+(m:Int))=(i:Int)+(m:Int):=by rw [IntKind.wrap_i64];omega
 have hb1:(0:Int)≤(i:Int)+(m:Int):=by omega
 have hin:i≤n:=by omega
 have htn:((i:Int)+(m:Int)).toNat=i+m:=by omega
 have hb3:(i:Int)≤(n:Int):=by omega
 clear hkk hik hold hROW hG hRl
 go_enter Tryz.func66,Tryz.ntmps66
 go_wp2_with (first
  |(at_builtin;refine Lib.wpList_append_run _ rfl _ _ _ _ rfl _ _ rfl rfl _ _ (hrz _) ?_)
  |(at_builtin;refine lC _ rfl _ _ 59 59 rfl _ _ rfl rfl (hcpA _ hE1 hE2 _ _) ?_)
  |(at_builtin;refine lC _ rfl _ _ 59 59 rfl _ _ rfl rfl (hcpB _ (fun _=>rfl) (fun _=>rfl) _ _ _) ?_))
 go_region_law (refine sM rfl _ _ 59 59 rfl (.slice (some ⟨w.heap.size,(i+m)*2,none⟩) (n+m-(i+m)) (G-(i+m))) (.slice (some ⟨b,i*2,none⟩) (n-i) (c-i)) (by simp [Act.eval,Act.put]) (by simp [Act.eval,Act.put]) (hcpB _ hF1 hF2 3 (G-(i+m)) (c-i)) ?_)
 go_wp2
 go_ret
 exact⟨rfl,rfl⟩
open Go.RowKit Go.Lib in
set_option maxHeartbeats 4000000 in
set_option maxRecDepth 100000 in
theorem U1(base vbase:Option Addr)(n c i vc:Nat)(w:World)(hi:i≤n)(hn:n≤c)(hc:c≤9223372036854775807):Calls Tryz.prog 66 #[.slice base n c,.int .i64 i,.slice vbase 0 vc] w fun e w'=>e= .returned (.slice base n c)∧w'=w:=by
 have hin:(i:Int)≤(n:Int):=by omega
 go_enter Tryz.func66,Tryz.ntmps66
 cases base with
 |none=>
  go_wp2
  go_ret
  exact⟨rfl,rfl⟩
 |some a=>
  obtain⟨ab,ao,asp⟩:=a
  by_cases hci:c=i
  ·go_wp2
   go_ret
   exact⟨rfl,rfl⟩
  ·go_wp2
   go_ret
   exact⟨rfl,rfl⟩
open Go.RowKit Go.Lib in
set_option maxHeartbeats 4000000 in
set_option maxRecDepth 100000 in
theorem T9(base vbase:Option Addr)(n c m vc:Nat)(w:World)(v':Value)(w':World)(hm:0<m)(hn:n≤c)(hc:c≤9223372036854775807)(hrun:(Builtin.append_ #[59,59] 59 #[.slice base n c,.slice vbase m vc]).run Tryz.prog w= .ok v' w'):
  Calls Tryz.prog 66 #[.slice base n c,.int .i64 n,.slice vbase m vc] w fun e w1=>e= .returned v'∧w1=w':=by
 have hz1: ¬((m:Int)=0):=by omega
 go_enter Tryz.func66,Tryz.ntmps66
 cases base with
 |none=>
  go_wp2_with (at_builtin;refine Lib.wpList_append_run _ rfl _ _ _ _ rfl _ _ rfl rfl _ _ hrun ?_)
  go_ret
  exact⟨rfl,rfl⟩
 |some a=>
  obtain⟨ab,ao,asp⟩:=a
  by_cases hci:c=n
  ·go_wp2_with (at_builtin;refine Lib.wpList_append_run _ rfl _ _ _ _ rfl _ _ rfl rfl _ _ hrun ?_)
   go_ret
   exact⟨rfl,rfl⟩
  ·go_wp2_with (at_builtin;refine Lib.wpList_append_run _ rfl _ _ _ _ rfl _ _ rfl rfl _ _ hrun ?_)
   go_ret
   exact⟨rfl,rfl⟩
theorem aB8{i0:TypeInfo}{z:Value}(hi0:Tryz.prog.info? 58=some i0)(hz0:i0.zero=some z)(hzs:i0.size=2)(hzc:z.cells.size=2):InsRaw Tryz.prog 66 59 58 2 i0 z where
 nothing:=U1
 tail:=T9
 room:=fun b n c i vb m vc cs vs w hi hm hroom hc63 hvb hcl hvl hcs hsp hfz hvs h1c h1v tA tB kA kB hsa hsb hkB hfa=>U0 b n c i vb m vc cs vs w hi hm hroom hc63 hvb hcl hvl hcs hsp hfz hvs h1c h1v tA tB kA kB hsa hsb hkB hfa
 grow:=fun b n c i vb m vc cs vs w hi hm hnc hroom hle hbig hcl hvl hcs hvs h1c h1v=>U2 b n c i vb m vc cs vs w hi hm hnc hroom i0 z hi0 hz0 hzs hzc hle hbig hcl hvl hcs hvs h1c h1v
theorem E9(G:GS)(n:Nat)(s:List Loop)(i:Int)(v:List Loop)(gs gv:Nat){r:List Loop}(h:gO n s i v=some r):
  VQ G 66 [ar 58 gs 2 aC s,ar 58 gv 2 aC v] [ms 0 gs 2 aC s,vI i,ms 1 gv 2 aC v] (ms 0 (gs+1) 2 aC r) [ar 58 (gs+1) 2 aC r,ar 58 gv 2 aC v]:=by
 unfold gO at h
 refine t8 (decide ((0:Int)≤i)) (fun c1=> ?_) (fun c1=> ?_)
 ·have h:=bf c1 h
  exact nof h
 have h:=bt c1 h
 refine t8 (decide (i≤(s.length:Int))) (fun c2=> ?_) (fun c2=> ?_)
 ·have h:=bf c2 h
  exact nof h
 have h:=bt c2 h
 have g0:=of_decide_eq_true c1
 have g1:=of_decide_eq_true c2
 obtain⟨k,rfl⟩: ∃k:Nat,i=(k:Int):=⟨i.toNat,by omega⟩
 simp only [Int.toNat_natCast] at h
 have hif:(Tryz.prog.info? 58).map (fun i=>(i.zero.map (fun z=>z.cells.size),i.size,Nat.ble i.bytes 140000))=some (some 2,2,true):=by kernel_rfl
 cases hq:Tryz.prog.info? 58 with
 |none=>rw [hq] at hif;cases hif
 |some i0=>
  rw [hq] at hif
  simp only [Option.map_some,Option.some.injEq,Prod.mk.injEq] at hif
  obtain⟨h1,h2,h3⟩:=hif
  cases hz:i0.zero with
  |none=>rw [hz] at h1;cases h1
  |some z=>
   rw [hz] at h1
   simp only [Option.map_some,Option.some.injEq] at h1
   refine aJj ⟨_,Tryz.func66,by kernel_rfl,by kernel_rfl⟩ (aB8 hq hz h2 h1) Tryz.underlying59 hq hz h1 h2 Tryz.underlying58 (by decide) (Nat.le_of_ble_eq_true h3) aC (fun _=>rfl) s v r k gs gv (by omega) h
theorem V5(G:GS)(n:Nat)(a:Affine){r:Bool}(h:l9 n a=some r):PQ G 151 [V.agg (aK a)] (vB r):=by
 unfold l9 at h
 refine pq aO Tryz.func151 rfl fun w X hC=> ?_
 refine rq hC [.z (.b (true))] [1,2] [(1,V.tp (aY a))] [] [] ?_
 obtain⟨x1,hx1,h⟩:=bd h
 obtain rfl:=so h
 exact rq hC [oV (fU G hx1)] (fr 2 4) [(2,vB (decide ((0:Int)<x1)))] [] [] (qr eR)
theorem tS{list}{r}(h:nM n list=some r):PQ G 105 [vM aA list] (vB r):=by
 unfold nM at h
 refine pq aO Tryz.func105 rfl fun w X hC=> ?_
 refine rq hC [] [2] [] [] [] ?_
 obtain⟨x1,hx1,h⟩:=bd h
 obtain rfl:=so h
 exact rq hC [oV (qM G n list 151 (fun q0=>l9 n q0) (fun q0 r h=>V5 G n q0 h) hx1)] (fr 2 4) [(2,vB (!x1))] [] [] (qr eR)
theorem S2{l}{r}(h:kU n l=some r):PQ G 63 [V.agg (yN l)] (V.tup [vI r.1,vI r.2.1,vB r.2.2]):=by
 unfold kU at h
 refine pq aO Tryz.func63 rfl fun w X hC=> ?_
 refine rq hC [.z (.b (true))] (fr 1 4) [(1,V.tp (wY l))] [] [] (qs (vj h (fun x_=>aZ [(1,V.tp (wY l)),(26,vB x_)] [] []) (fun j1 h=> ?_) (fun x4 h=> ?_)))
 ·
  refine aR h (fun c1 h=> ?_) (fun c1 h=> ?_)
  ·refine aR h (fun c2 h=> ?_) (fun c2 h=> ?_)
   ·obtain⟨x2,hx2,h⟩:=bd h
    refine aR h (fun c3 h=> ?_) (fun c3 h=> ?_)
    ·obtain⟨x3,hx3,h⟩:=bd h
     exact rk hC ([oN aA l.lo]++rF 3 c1++[oN aA l.hi,oF c1,oF c1]++rF 3 c2++[oV (tS G hx2),oF c2,oF c2]++rF 3 c3++[oV (tS G hx3),oF c3,oF c3]) (fr 5 22) [(26,vB (!x3))] [] [] (lE h)
    ·exact rk hC ([oN aA l.lo]++rF 3 c1++[oN aA l.hi,oF c1,oF c1]++rF 3 c2++[oV (tS G hx2),oF c2,oF c2]++rT 5 c3) (fr 5 22) [(26,vB true)] [] [] (lE h)
   ·exact rk hC ([oN aA l.lo]++rF 3 c1++[oN aA l.hi,oF c1,oF c1]++rT 5 c2++sT 5) (fr 5 22) [(26,vB true)] [] [] (lE h)
  ·exact rk hC ([oN aA l.lo]++rT 5 c1++sT 10) (fr 5 22) [(26,vB true)] [] [] (lE h)
 ·refine aS h (fun c4 h=> ?_) (fun c4 h=> ?_)
  ·obtain rfl:=so h
   exact rq hC [] [2,3,4] [(2,vI 0),(3,vI 0),(4,vB false)] [] [] (qr eR)
  ·refine qk (qs ?_)
   obtain⟨x5,hx5,x6,hx6,h⟩:=cT h
   obtain rfl:=so h
   exact dk hC bF [oR aA hx5,oR aA hx6] [2,3,4,27,28,29,30,31,32,33,34,35,36] [(2,vI x5.const),(3,vI x6.const),(4,vB true)] [] [] (qr eR)
abbrev nd1:List Nd:=[⟨62,2,[]⟩]
theorem A5(G:GS)(n:Nat)(s0 s:List Loop)(i:Int)(v:List Loop)(gs gv:Nat){r:List Loop}(e:(s0.map aC).length=(s.map aC).length)(h:gO n s i v=some r):
  VQ G 66 [ar 58 gs 2 aC s,ar 58 gv 2 aC v] [ms 0 gs 2 aC s0,vI i,ms 1 gv 2 aC v] (ms 0 (gs+1) 2 aC r) [ar 58 (gs+1) 2 aC r,ar 58 gv 2 aC v]:=by
 have:=E9 G n s i v gs gv h
 show VCC _ _ _ _ [V.msl 0 gs 2 0 (s0.map aC).length,vI i,ms 1 gv 2 aC v] _ _
 rw [e]
 exact this
theorem V6{p}{part}{loop}{size}{r}(h:mD n p part loop size=some r):PQ G 18 [V.agg (bQ p),vI part,vI loop,vI size] (V.tup [V.agg (bQ r.1),vB r.2]):=by
 unfold mD at h
 refine pq aO Tryz.func18 rfl fun w X hC=> ?_
 refine rq hC [.z (.b (true)),.z (.b (true)),.z (.nat 20)] [4,6,8,9] [(4,V.tp (bZ p)),(6,V.tp [T.int .i64 loop]),(8,V.ref 20 0)] [(20,sc [V.t T.nilS,V.t T.nilS])] [(20,true)] (qs ?_)
 obtain⟨x1,hx1,h⟩:=bd h
 refine t8 x1.2 (fun c1=> ?_) (fun c1=> ?_)
 ·have h:=bf c1 h
  refine rk hC [oV (tU G n p part loop hx1 c1),.z (.nat 21)] [10,11,12,18,19,20,21,22,23,24,25] [(10,V.ref 21 0),(11,V.t T.nilP),(12,vB false)] [(21,sc [vM aI [],vM aD []])] [(21,true)] (qs (rq hC (sT 14) (fr 26 19) [(44,vB true)] [] [] (sL (b:=true) (by kernel_rfl) (fun c2=> ?_) (fun c2=>by cases c2))))
  obtain rfl:=so h
  exact rq hC [] [9,45] [(9,vB false)] [(20,sc [V.t T.nilS,V.t T.nilS])] [] (qr eR)
 have h:=bt c1 h
 obtain⟨x5,hx5,h⟩:=bd h
 refine rk hC [oC [] [21,22] (tT G n p part loop hx1 c1),.z (.nat 23)] [10,11,12,18,19,20,21,22,23,24,25] [(10,V.ref 23 0),(11,V.eref 22 1 2 (0+Int.toNat part) 0),(12,vB true)] [(21,some (ar 77 1 2 aI x1.1.arrays)),(22,some (E.tree cK 0 1 (List.map aD x1.1.parts) [])),(23,sc [ms 21 1 2 aI x1.1.arrays,ms 22 1 2 aD x1.1.parts])] [(21,true),(22,true),(23,true)] (qs (vj h (fun x_=>aZ [(3,vI size),(6,V.tp [T.int .i64 loop]),(8,V.ref 20 0),(10,V.ref 23 0),(11,V.eref 22 1 2 (0+Int.toNat part) 0),(44,vB x_)] [(20,E.cells [V.t T.nilS,V.t T.nilS]),(21,ar 77 1 2 aI x1.1.arrays),(22,E.tree cK 0 1 (List.map aD x1.1.parts) []),(23,E.cells [ms 21 1 2 aI x1.1.arrays,ms 22 1 2 aD x1.1.parts])] [20,21,22,23]) (fun j2 h=> ?_) (fun x4 h=> ?_)))
 ·
  refine aR h (fun c2 h=> ?_) (fun c2 h=> ?_)
  ·refine qw (qS hC [.foc 22 24 (0+Int.toNat part) 0 (aD x5)] [] [] [(22,some (E.tree cK 0 1 (List.map aD x1.1.parts) [((0+Int.toNat part),0,ms 24 1 2 aC x5.nest)])),(24,some (E.tree cK 1 1 (List.map aC x5.nest) []))] [(24,true)] (a1 (lL aD hx5)) (by kernel_rfl)) (aR h (fun c4 h=> ?_) (fun c4 h=> ?_))
   ·obtain⟨x3,hx3,h⟩:=bd h
    exact rk hC ([eF,eF,eF]++rF 4 c2++[oX aD hx5,oF c2,oN aC x5.nest,oF c2,oF c2,oF c4,oF c4,oV (bK G hx3),oF c4,oF c4]) (fr 26 19) [(44,vB (!x3))] [] [] ⟨!x3,h,S.le.trans (qS hC [.unf 22 24 (aD x5) (List.map aD x1.1.parts)] [] [] [(24,none),(22,some (E.tree cK 0 1 (List.map aD x1.1.parts) []))] [] (a4 (Eq.refl (List.map aC x5.nest).length) (Eq.refl cK) (lL aD hx5) (u9 aD hx5 rfl)) (by kernel_rfl)) (lS)⟩
   ·exact rk hC ([eF,eF,eF]++rF 4 c2++[oX aD hx5,oF c2,oN aC x5.nest,oF c2,oF c2]++rT 4 c4) (fr 26 19) [(44,vB true)] [] [] ⟨true,h,S.le.trans (qS hC [.unf 22 24 (aD x5) (List.map aD x1.1.parts)] [] [] [(24,none),(22,some (E.tree cK 0 1 (List.map aD x1.1.parts) []))] [] (a4 (Eq.refl (List.map aC x5.nest).length) (Eq.refl cK) (lL aD hx5) (u9 aD hx5 rfl)) (by kernel_rfl)) (lS)⟩
  ·exact rk hC ([eF,eF,eF]++rT 7 c2++sT 4) (fr 26 19) [(44,vB true)] [] [] (lE h)
 ·refine aS h (fun c3 h=> ?_) (fun c3 h=> ?_)
  ·obtain rfl:=so h
   exact rq hC [] [9,45] [(9,vB false)] [(20,sc [V.t T.nilS,V.t T.nilS])] [] (qr eR)
  ·refine qk (qs ?_)
   obtain⟨x6,hx6,x7,hx7,h⟩:=cT h
   refine qw (qS hC [.foc 22 24 (0+Int.toNat part) 0 (aD x5),.foc 24 25 (0+Int.toNat loop) 0 (aC x6),.foc 24 26 (0+Int.toNat loop) 1 (aC x6)] [] [] [(22,some (E.tree cK 0 1 (List.map aD x1.1.parts) [((0+Int.toNat part),0,ms 24 1 2 aC x5.nest)])),(24,some (E.tree cK 1 1 (List.map aC x5.nest) [((0+Int.toNat loop),1,ms 26 1 2 aA x6.hi),((0+Int.toNat loop),0,ms 25 1 2 aA x6.lo)])),(25,some (E.tree cK 3 1 (List.map aA x6.lo) [])),(26,some (E.tree cK 3 1 (List.map aA x6.hi) []))] [(24,true),(25,true),(26,true)] (a3 (lL aD hx5) (lL aC hx6) (lL aC hx6)) (by kernel_rfl)) (dk hC bF [oX aD hx5,oQ (jA aC hx6),oX aC hx6,.z (.b true),.z (.nat 25),.z (.nat 26),oV (S2 G hx7)] [12,13,14,46,47,48,49,50,51,52,53,54,55,56,57] [(12,vB x7.2.2),(13,vI x7.1),(14,vI x7.2.1)] [] [] (qw (qS hC [.unf 24 26 (aC x6) (List.map aC x5.nest),.unf 24 25 (aC x6) (List.map aC x5.nest),.unf 22 24 (aD x5) (List.map aD x1.1.parts)] [] [] [(26,none),(25,none),(24,none),(22,some (E.tree cK 0 1 (List.map aD x1.1.parts) []))] [] (a12 (Eq.refl (List.map aA x6.hi).length) (Eq.refl cK) (lL aC hx6) (u9 aC hx6 rfl) (Eq.refl (List.map aA x6.lo).length) (Eq.refl cK) (lL aC hx6) (u9 aC hx6 rfl) (Eq.refl (List.map aC x5.nest).length) (Eq.refl cK) (lL aD hx5) (u9 aD hx5 rfl)) (by kernel_rfl)) (qs (rq hC [] [58,59] [(59,vB (!x7.2.2))] [] [] ?_))))
   refine vc (b:= !x7.2.2) (fun c5=> ?_) (fun c5=> ?_)
   ·have c5:x7.2.2=false:=by simpa using c5
    have h:=bf c5 h
    obtain rfl:=so h
    exact rq hC [] [9,60] [(9,vB false)] [(20,sc [V.t T.nilS,V.t T.nilS])] [] (qr eR)
   ·have c5:x7.2.2=true:=by simpa using c5
    have h:=bt c5 h
    refine qk ?_
    obtain⟨x8,hx8,x9,hx9,h⟩:=cT h
    refine rq hC [oC [22] [] (tX G n x1.1.parts part x5 hx5 1 loop 64 [T.int .i64 loop] (fun q0=>fH n q0 loop) (fun q0 r h=>F5 G n q0 loop h) hx8 hx9)] (fr 61 4) [] [(22,some (E.tree cK 0 1 (List.map aD x9) []))] [(22,true)] ?_
    have hp8:=aDC hx9
    refine qw (qS hC [.foc 22 36 (0+Int.toNat part) 0 (aD x8),.shd 36,.tre 22 nd1 0] [] [] [(22,some (E.tree nd1 0 1 (List.map aD x9) [((0+Int.toNat part),0,ms 36 1 2 aC x8.nest)])),(36,some (ar 58 1 2 aC x8.nest))] [(36,true)] (a1 (lL aD hp8)) (by kernel_rfl)) (qs ?_)
    obtain⟨y0,hy0,h⟩:=bd h
    refine rk hC [oQ (zJ hy0)] [15,65,66,67,68,69,70,71,72,73] [(15,vI (wr (Int.tdiv (wr ((wr ((max 0 (wr (x7.2.1-x7.1)))+size))-1)) size)))] [] [] (qs ?_)
    obtain⟨y1,hy1,h⟩:=bd h
    obtain⟨y2,hy2,h⟩:=bd h
    refine dk hC bF [oC [] [27] (iV G hy1),oC [] [28] (iV G hy2),.z (.nat 29),.z (.nat 30)] [16,17,74,75,76,77,78,79] [(16,V.ref 29 0),(17,V.ref 30 0)] [(27,some (ar 3 1 1 rI y1.coefs)),(28,some (ar 3 1 1 rI y2.coefs)),(29,sc [ms 27 1 1 rI y1.coefs,vI y1.const]),(30,sc [ms 28 1 1 rI y2.coefs,vI y2.const])] [(27,true),(28,true),(29,true),(30,true)] (rq hC [] (fr 80 6) [] [(29,sc [ms 27 1 1 rI y1.coefs,vI x7.1]),(30,sc [ms 28 1 1 rI y2.coefs,vI (wr (x7.1+size))])] [] (qw (lk hC [.fz 27 [] [29],.fz 28 [] [30]] [] [] [(27,none),(28,none),(29,sc [vM rI y1.coefs,vI x7.1]),(30,sc [vM rI y2.coefs,vI (wr (x7.1+size))])] []) (qs ?_)))
    obtain⟨z1,hz1,h⟩:=bd h
    obtain⟨z2,hz2,h⟩:=bd h
    obtain⟨y3,hy3,h⟩:=bd h
    obtain⟨x10,hx10,h⟩:=bd h
    refine dk hC bF [.z (.row (aD x8)),oQ (lL aD hp8),oC [] [31] (iX G hz1),.z (.at 8),.z (.fz 31 [92] []),.z (.int 0),oC [] [32] (iX G hz2),.z (.at 4),.z (.fz 32 [96] []),.z (.int 0),oQ (jA aC hy3),oX aC hy3,.z (.rows (List.map aC x10)),oQ (str aC hx10)] (fr 86 15) [] [(31,none),(32,none),(36,some (ar 58 1 2 aC x10))] [(31,true),(32,true)] (qs ?_)
    obtain⟨z3,hz3,h⟩:=bd h
    obtain⟨z4,hz4,h⟩:=bd h
    obtain⟨x11,hx11,x12,hx12,h⟩:=cT h
    refine dk hC bF [.z (.row (aD x8)),oQ (lL aD hp8),oC [] [33] (iX G hz3),.z (.at 10),.z (.fz 33 [107] []),.z (.int 0),oC [] [34] (iX G hz4),.z (.at 7),.z (.fz 34 [110] []),.z (.int 0),.z (.int 1),.z (.nat 35),oC [36,35] [] (A5 G n x8.nest x10 loop [(⟨[z3],[z4]⟩:Loop)] 1 1 (gR aC hx10) hx11),.z (.row (aD x8)),oQ (lL aD hp8)] (fr 101 16) [] [(33,none),(34,none),(35,some (ar 58 1 2 aC [(⟨[z3],[z4]⟩:Loop)])),(36,some (ar 58 (1+1) 2 aC x11)),(22,some (E.tree nd1 0 1 (List.map aD x9) [((0+Int.toNat part),0,ms 36 (1+1) 2 aC x11)]))] [(33,true),(34,true),(35,true),(36,true),(35,true)] (qw (qS hC [.frzc 22 0 36,.unt 22 (aD x8) (List.map aD x12),.shd 22,.lenc 23 1 (List.map aD x12).length,.fz 21 [] [23],.fz 22 [] [23]] [] [] [(36,none),(21,none),(22,none),(23,sc [vM aI x1.1.arrays,vM aD x12])] [] (a3 (lL aD hp8) (uV aD hx12 rfl) ((gR aD hx9).trans (gR aD hx12))) (by kernel_rfl)) ?_)
    obtain⟨x13,hx13,h⟩:=bd h
    obtain rfl:=so h
    exact rq hC [oV (rR G hx13)] [9,117,118,119,120] [(9,vB x13.2)] [(20,some (E.cells (bQ x13.1)))] [] (qr eR)
theorem aCF{r_a0}{r}(h:pT n r_a0=some r):VQ G 68 [eL r_a0] [V.ref 0 0] (V.agg (bQ r.1)) [eL r.2]:=by
 unfold pT at h
 refine vq aO Tryz.func68 rfl fun w X β0 hC hg=> ?_
 refine rq hC [.z (.nat 20)] [2] [(2,V.ref 20 0)] [(20,sc [V.t T.nilS,V.t T.nilS])] [(20,true)] ?_
 obtain⟨x1,hx1,h⟩:=bd h
 refine rq hC [.z (.int 0),oC [0] [] (kW G hx1)] [3,6,7,8] [(3,vS x1.1)] [(0,sR x1.2)] [(0,true)] ?_
 obtain⟨x2,hx2,x3,hx3,h⟩:=cT h
 refine rq hC [oS hx2,oV (qJ G hx3),.z (.nat 21)] [4,5,9,10,11,12,13,14] [(4,V.ref 21 0),(5,vB x3.2)] [(21,some (E.cells (bQ x3.1)))] [(21,true)] (qs (vj h (fun x_=>aZ [(0,V.ref 0 0),(2,V.ref 20 0),(4,V.ref 21 0),(20,vB x_.2.2)] [(0,E.cells [vM rY x_.1,vI x_.2.1]),(20,E.cells [V.t T.nilS,V.t T.nilS]),(21,E.cells (bQ x3.1))] [0,20,21]) (fun j4 h=> ?_) ?_))
 ·
  refine aR h (fun c1 h=> ?_) (fun c1 h=> ?_)
  ·exact rk hC (rF 4 c1) (fr 15 6) [(20,vB false)] [] [] (lE h)
  ·obtain⟨x5,hx5,h⟩:=bd h
   exact rk hC [oT c1,oT c1,oC [0] [] (bL G hx5),oT c1,oT c1] (fr 15 6) [(20,vB (decide (x5.1=0)))] [(0,sR x5.2)] [(0,true)] (lE h)
 ·rintro⟨x6,x7,x8⟩ h
  refine aS h (fun c2 h=> ?_) (fun c2 h=> ?_)
  ·obtain rfl:=so h
   exact rq hC [] [21] [] [(20,some (E.cells (bQ x3.1)))] [] (qr eW)
  ·refine qk ?_
   obtain⟨x9,hx9,h⟩:=bd h
   obtain rfl:=so h
   exact rq hC [oC [0] [] (aD4 G hx9)] [22,23] [] [(0,sR x9.2),(20,some (E.cells (bQ x9.1)))] [(0,true)] (qr eW)
theorem aCE{r_a0}{r}(h:pS n r_a0=some r):VQ G 69 [eL r_a0] [V.ref 0 0] (vI r.1) [eL r.2]:=by
 unfold pS at h
 refine vq aO Tryz.func69 rfl fun w X β0 hC hg=> ?_
 refine rq hC [] [2] [] [] [] ?_
 obtain⟨x1,hx1,h⟩:=bd h
 obtain rfl:=so h
 exact rq hC [.z (.int 0),oC [0] [] (bH G hx1)] (fr 2 4) [(2,vI x1.1)] [(0,sR x1.2)] [(0,true)] (qr eW)
theorem sI{code}{r}(h:d4 n code=some r):PQ G 19 [vM rY code] (V.tup [V.agg (bQ r.1),vI r.2]):=by
 unfold d4 at h
 refine pq aO Tryz.func19 rfl fun w X hC=> ?_
 refine rq hC [.z (.nat 20)] [2,3] [(2,V.ref 20 0)] [(20,sc [V.t T.nilS,V.t T.nilS])] [(20,true)] ?_
 obtain⟨x1,hx1,h⟩:=bd h
 refine rq hC [oC [] [21] (aCD G hx1)] [4,6,7] [(4,V.ref 21 0)] [(21,sR x1)] [(21,true)] ?_
 obtain⟨x2,hx2,x3,hx3,h⟩:=cT h
 refine rq hC [oC [21] [] (aCF G hx2),oC [21] [] (aBj G hx3),.z (.nat 22)] [5,8,9,10,11] [(5,V.ref 22 0)] [(21,sR x3.2),(22,some (E.cells (bQ x3.1)))] [(21,true),(21,true),(22,true)] (qs ?_)
 obtain⟨x4,hx4,h⟩:=bd h
 obtain rfl:=so h
 exact dk hC bF [oC [21] [] (aCE G hx4)] [3,12,13,14] [(3,vI x4.1)] [(21,sR x4.2),(20,some (E.cells (bQ x3.1)))] [(21,true)] (qr eR)
theorem aBk{s}{r}(h:n4 n s=some r):PQ G 77 [vM rI s] (vM rI r):=by
 unfold n4 at h
 refine pq aO Tryz.func77 rfl fun w X hC=> ?_
 refine rq hC [] [2] [] [] [] ?_
 obtain⟨x1,hx1,h⟩:=bd h
 obtain rfl:=so h
 exact rq hC [oN rI s,oN rI s,.z (.rows (List.map rI x1)),oQ (And.intro (t6 rI hx1) (Eq.refl ((s.length:Int):Int))),oQ (b6 (r:=rI) 1 (fun _=>rfl) s)] (fr 2 7) [(2,vM rI x1)] [] [] (qr eR)
theorem A8{p}{r}(h:fS n p=some r):PQ G 24 [V.agg (bQ p)] (vM rI r):=by
 unfold fS at h
 refine pq aO Tryz.func24 rfl fun w X hC=> ?_
 refine rq hC [.z (.b (true))] [1,2] [(1,V.tp (bZ p))] [] [] (qs ?_)
 obtain⟨x1,hx1,h⟩:=bd h
 refine aR h (fun c1 h=> ?_) (fun c1 h=> ?_)
 ·refine rk hC [.z (.v (V.tup [V.t T.nilP,vB x1.2])),oQ (vPn c1 (aAd G hx1))] [3,4,7,8,9,10,11] [(3,V.t T.nilP),(4,vB x1.2)] [] [] (qs (rq hC [] [12,13] [(13,vB (!x1.2))] [] [] (aS h (fun c2 h=> ?_) (fun c2 h=> ?_))))
  ·obtain rfl:=so h
   exact rq hC [] [2] [(2,V.t T.nilS)] [] [] (qr eR)
  ·exact qk (rq hC [] [5] [(5,V.t T.nilS)] [] [] (qs (qs (nof h))))
 ·refine rk hC [.z (.v (V.tup [V.tp [T.sl (List.map aI (((x1.1.getD default).program).arrays)),T.sl (List.map aD (((x1.1.getD default).program).parts)),T.sl (List.map bA ((x1.1.getD default).list)),T.sl (List.map (rL rI) ((x1.1.getD default).reads)),T.sl (List.map rI ((x1.1.getD default).writes))],vB x1.2])),oQ (vPs c1 (aAd G hx1))] [3,4,7,8,9,10,11] [(3,V.tp [T.sl (List.map aI (((x1.1.getD default).program).arrays)),T.sl (List.map aD (((x1.1.getD default).program).parts)),T.sl (List.map bA ((x1.1.getD default).list)),T.sl (List.map (rL rI) ((x1.1.getD default).reads)),T.sl (List.map rI ((x1.1.getD default).writes))]),(4,vB x1.2)] [] [] (qs (rq hC [] [12,13] [(13,vB (!x1.2))] [] [] (aS h (fun c3 h=> ?_) (fun c3 h=> ?_))))
  ·obtain rfl:=so h
   exact rq hC [] [2] [(2,V.t T.nilS)] [] [] (qr eR)
  ·refine qk (rq hC [] [5] [(5,V.t T.nilS)] [] [] (qs (rq hC [oN bA ((x1.1.getD default).list)] (fr 14 6) [(18,vI (((x1.1.getD default).list).length:Int)),(19,vI 0)] [] [] (qb (qw (lk hC [.grow 5 20 3] [5] [(5,ms 20 1 1 rI [])] [(20,some (ar 3 1 1 rI []))] [(20,true)]) ?_)))))
   refine bD (γ:=Nat) h (fun x_ g_=>aZ [(3,V.tp [T.sl (List.map aI (((x1.1.getD default).program).arrays)),T.sl (List.map aD (((x1.1.getD default).program).parts)),T.sl (List.map bA ((x1.1.getD default).list)),T.sl (List.map (rL rI) ((x1.1.getD default).reads)),T.sl (List.map rI ((x1.1.getD default).writes))]),(5,ms 20 g_ 1 rI x_.1),(18,vI (((x1.1.getD default).list).length:Int)),(19,vI x_.2)] [(20,ar 3 g_ 1 rI x_.1)] [20]) 1 (lS) ?_
   rintro again5 ⟨x2,x3⟩ g4 h
   refine rq hC [] [20] [(20,vB (decide (x3<(((x1.1.getD default).list).length:Int))))] [] [] (qs (aS h (fun c4 h=> ?_) (fun c4 h=> ?_)))
   ·refine qk (qs (qb (rq hC [] [6,21] [(6,vI x3)] [] [] ?_)))
    obtain⟨x6,hx6,x7,hx7,x8,hx8,h⟩:=lW h
    obtain⟨x9,hx9,h⟩:=bd h
    exact dk hC bF [oR (rL rI) hx6,oA (aP rI hx7),oQ (b6 (r:=rI) 1 (fun _=>rfl) x2),oQ (b6 (r:=rI) 1 (fun _=>rfl) x6),oR rI hx8,.z (.int 0),oA (aP rI hx9),oQ (b6 (r:=rI) 1 (fun _=>rfl) x7),oQ (b6 (r:=rI) 1 (fun _=>rfl) [x8])] [5,22,23,24,25,26,27,28,29,30,31,32,33,34,35,36,37,38,39] [(5,ms 20 (g4+2) 1 rI x9)] [(20,some (ar 3 (g4+2) 1 rI x9))] [] (rk hC [] [19,40] [(19,vI (wr (x3+1)))] [] [] ⟨(x9,wr (x3+1)),(g4+2),h,lS⟩)
   ·refine cV ?_
    obtain⟨x10,hx10,x11,hx11,h⟩:=cT h
    obtain rfl:=so h
    exact rq hC [oN rI x2,.z (.at 3),.z (.fz 20 [5,41,42] []),oA (t6 rI hx10),oQ (b6 (r:=rI) 1 (fun _=>rfl) x2),oV (aBk G hx11)] [2,5,41,42,43,44,45,46] [(2,vM rI x11)] [(20,none)] [] (qr eR)
theorem aW{p}{size}{r}(h:bW n p size=some r):PQ G 20 [V.agg (bQ p),vI size] (vI r):=by
 unfold bW at h
 refine pq aO Tryz.func20 rfl fun w X hC=> ?_
 refine rq hC [.z (.b (true))] [2,4] [(2,V.tp (bZ p))] [] [] (qs ?_)
 obtain⟨x1,hx1,h⟩:=bd h
 refine rq hC [oV (cA G hx1)] [5,6,7] [(7,vB (!x1))] [] [] (aS h (fun c1 h=> ?_) (fun c1 h=> ?_))
 ·obtain rfl:=so h
  exact rq hC [] [4] [(4,vI (-1))] [] [] (qr eR)
 ·refine qk ?_
  obtain⟨x2,hx2,x3,hx3,h⟩:=cT h
  obtain rfl:=so h
  exact rq hC [oV (A8 G hx2),oV (G.lru x2 size x3 hx3)] [4,8,9,10,11] [(4,vI x3)] [] [] (qr eR)
theorem wP{trace}{r}(h:fM n trace=some r):VQ G 120 [] [vM rI trace] (ms 0 1 1 rI r) [ar 3 1 1 rI r]:=by
 unfold fM at h
 refine vq aO Tryz.func120 rfl fun w X β0 hC hg=> ?_
 refine rq hC [] [2] [] [] [] (rq hC [.z (.nat 20)] [3,9] [(3,ms 20 1 1 rI [])] [(20,some (ar 3 1 1 rI []))] [(20,true)] (qs (rq hC [oN rI trace] [10,11,12] [(12,vB (decide ((600:Int)<(trace.length:Int))))] [] [] (aS h (fun c1 h=> ?_) (fun c1 h=> ?_)))))
 ·obtain rfl:=so h
  exact rq hC [] [2,13] [(2,ms 20 1 1 rI [])] [] [] (qw (lk hC [.ren 2 20 0] [2] [(2,ms 0 1 1 rI [])] [(0,some (ar 3 1 1 rI [])),(20,none)] [(0,true)]) (qr eW))
 ·refine qk (rq hC [.z (.nat 21)] [4,14] [(4,ms 21 1 1 rI [])] [(21,some (ar 3 1 1 rI []))] [(21,true)] (qs (rq hC [] [5] [(5,vI 0)] [] [] (qb (qw (lk hC [.fz 21 [4] []] [4] [(4,vM rI [])] [(21,none)] []) ?_)))))
  refine bD (γ:=Nat) h (fun x_ g_=>aZ [(0,vM rI trace),(3,ms 20 g_ 1 rI x_.1),(4,vM rI x_.2.1),(5,vI x_.2.2)] [(20,ar 3 g_ 1 rI x_.1)] [20,21]) 1 (lS) ?_
  rintro again5 ⟨x1,x2,x3⟩ g4 h
  refine qs (rq hC [oN rI trace] (fr 15 4) [(18,vB (decide (x3<(trace.length:Int))))] [] [] (aS h (fun c2 h=> ?_) (fun c2 h=> ?_)))
  ·refine qk (qs (qb (rq hC [] [6] [(6,vI (-1))] [] [] (rq hC [.z (.nat 22)] [7,21] [(7,ms 22 1 1 rI [])] [(22,some (ar 3 1 1 rI []))] [(22,true)] (qs (rq hC [] [8] [(8,vI 0)] [] [] ?_))))))
   refine qb (bD (γ:=Nat) h (fun x_ g_=>aZ [(0,vM rI trace),(3,ms 20 g4 1 rI x1),(4,vM rI x2),(5,vI x3),(6,vI x_.2.1),(7,ms 22 g_ 1 rI x_.1),(8,vI x_.2.2)] [(20,ar 3 g4 1 rI x1),(22,ar 3 g_ 1 rI x_.1)] [20,21,22]) 1 (lS) ?_)
   rintro again10 ⟨x6,x7,x8⟩ g9 h
   refine qs (rq hC [oN rI x2] (fr 22 4) [(25,vB (decide (x8<(x2.length:Int))))] [] [] (aS h (fun c3 h=> ?_) (fun c3 h=> ?_)))
   ·refine qk ?_
    obtain⟨j11,hj11,h⟩:=M4 h
    refine mO (γ:=Nat) (j:=j11) (r:=r) (fun x_ g_=>aZ [(0,vM rI trace),(3,ms 20 g4 1 rI x1),(4,vM rI x2),(5,vI x3),(6,vI x_.2),(7,ms 22 g_ 1 rI x_.1),(8,vI x8)] [(20,ar 3 g4 1 rI x1),(22,ar 3 g_ 1 rI x_.1)] [20,21,22]) ?_ ?_
    ·
     refine qb (qs ?_)
     obtain⟨x12,hx12,x13,hx13,h⟩:=cT h
     refine dk hC bF [oR rI hx12,oR rI hx13] (fr 28 9) [(36,vB (decide (x12=x13)))] [] [] (aS h (fun c4 h=> ?_) (fun c4 h=> ?_))
     ·exact rk hC [] [6,37] [(6,vI x8)] [] [] ⟨(x6,x8),g9,h,lS⟩
     ·obtain⟨x14,hx14,h⟩:=bd h
      exact rk hC [oR rI hx12,.z (.int 0),oA (aP rI hx14),oQ (b6 (r:=rI) 1 (fun _=>rfl) x6),oQ (b6 (r:=rI) 1 (fun _=>rfl) [x12])] [7,38,39,40,41,42,43,44] [(7,ms 22 (g9+1) 1 rI x14)] [(22,some (ar 3 (g9+1) 1 rI x14))] [] ⟨(x14,x7),(g9+1),h,lS⟩
    ·rintro⟨x15,x16⟩ g17 h
     subst hj11
     exact rk hC [] [8,26,27] [(8,vI (wr (x8+1)))] [] [] ⟨(x15,x16,wr (x8+1)),g17,h,lS⟩
   ·refine cV ?_
    obtain⟨x18,hx18,h⟩:=bd h
    refine rq hC [.z (.int 0),oA (aP rI hx18),oQ (b6 (r:=rI) 1 (fun _=>rfl) x1),oQ (b6 (r:=rI) 1 (fun _=>rfl) [x7])] [3,45,46,47,48] [(3,ms 20 (g4+1) 1 rI x18)] [(20,some (ar 3 (g4+1) 1 rI x18))] [] ?_
    obtain⟨x19,hx19,x20,hx20,h⟩:=cT h
    exact rk hC [oR rI hx19,.z (.int 1),.z (.nat 23),.z (.at 2),.z (.fz 22 [7,54] []),oA (aP rI hx20),oQ (b6 (r:=rI) 1 (fun _=>rfl) [x19]),oQ (b6 (r:=rI) 1 (fun _=>rfl) x6)] [4,7,49,50,51,52,53,54,55] [(4,ms 23 2 1 rI x20)] [(23,some (ar 3 2 1 rI x20)),(22,none)] [(23,true)] (rk hC [] [5,19,20] [(5,vI (wr (x3+1)))] [] [] ⟨(x18,x20,wr (x3+1)),(g4+1),h,((lk hC [.fz 23 [4] []] [4] [(4,vM rI x20)] [(23,none)] []).trans (lS))⟩)
  ·obtain rfl:=so h
   exact cV (rq hC [] [2,56] [(2,ms 20 g4 1 rI x1)] [] [] (qw (lk hC [.ren 2 20 0] [2] [(2,ms 0 1 1 rI x1)] [(0,some (ar 3 1 1 rI x1)),(20,none)] [(0,true)]) (qr eW)))
theorem aCG{trace}{size}{r}(h:lI n trace size=some r):PQ G 119 [vM rI trace,vI size] (vB r):=by
 unfold lI at h
 refine pq aO Tryz.func119 rfl fun w X hC=> ?_
 refine rq hC [] [4] [] [] [] (vj h (fun x_=>aZ [(4,vB x_)] [] []) (fun j1 h=> ?_) (fun x2 h=> ?_))
 ·
  refine aR h (fun c1 h=> ?_) (fun c1 h=> ?_)
  ·exact rk hC ([oN rI trace]++rF 3 c1++[eF,eF,eF]) (fr 4 12) [(4,vB false)] [] [] (lE h)
  ·refine aR h (fun c2 h=> ?_) (fun c2 h=> ?_)
   ·exact rk hC ([oN rI trace]++rT 3 c1++rF 3 c2) (fr 4 12) [(4,vB false)] [] [] (lE h)
   ·exact rk hC ([oN rI trace]++rT 3 c1++rT 3 c2) (fr 4 12) [(4,vB (decide (size≤40)))] [] [] (lE h)
 ·obtain rfl:=so h
  exact qr eR
theorem U9{trace}{size}{r}(h:fW n trace size=some r):PQ G 72 [vM rI trace,vI size] (vI r):=by
 unfold fW at h
 refine pq aO Tryz.func72 rfl fun w X hC=> ?_
 refine rq hC [] [4] [] [] [] (qs ?_)
 obtain⟨x1,hx1,h⟩:=bd h
 refine rq hC [oV (aCG G hx1)] (fr 8 4) [(11,vB (!x1))] [] [] (aS h (fun c1 h=> ?_) (fun c1 h=> ?_))
 ·obtain rfl:=so h
  exact rq hC [] [4] [(4,vI (-1))] [] [] (qr eR)
 ·refine qk (rq hC [] [5] [(5,vI 0)] [] [] ?_)
  obtain⟨x2,hx2,h⟩:=bd h
  refine rq hC [oC [] [20] (wP G hx2)] [6,12,13] [(6,ms 20 1 1 rI x2)] [(20,some (ar 3 1 1 rI x2))] [(20,true)] (qs (rq hC [] [7] [(7,vI 0)] [] [] (qb (kG h (fun x_=>aZ [(1,vI size),(5,vI x_.1),(6,ms 20 1 1 rI x2),(7,vI x_.2)] [(20,ar 3 1 1 rI x2)] [20]) lS ?_))))
  rintro again5 ⟨x3,x4⟩ h
  refine qs (rq hC [oN rI x2] (fr 14 4) [(17,vB (decide (x4<(x2.length:Int))))] [] [] (aS h (fun c2 h=> ?_) (fun c2 h=> ?_)))
  ·refine qk (vj h (fun x_=>aZ [(1,vI size),(5,vI x_),(6,ms 20 1 1 rI x2),(7,vI x4)] [(20,ar 3 1 1 rI x2)] [20]) (fun j6 h=> ?_) (fun x10 h=> ?_))
   ·
    refine qb (vj h (fun x_=>aZ [(1,vI size),(5,vI x3),(6,ms 20 1 1 rI x2),(7,vI x4),(32,vB x_)] [(20,ar 3 1 1 rI x2)] [20]) (fun j7 h=> ?_) (fun x9 h=> ?_))
    ·
     obtain⟨x8,hx8,h⟩:=bd h
     refine aR h (fun c3 h=> ?_) (fun c3 h=> ?_)
     ·exact rk hC ([oQ (jA rI hx8),oX rI hx8]++rF 3 c3++[oQ (jA rI hx8),oF c3,oX rI hx8]++rF 3 c3) (fr 20 13) [(32,vB (decide (size≤x8)))] [] [] (lE h)
     ·exact rk hC ([oQ (jA rI hx8),oX rI hx8]++rT 7 c3) (fr 20 13) [(32,vB true)] [] [] (lE h)
    ·refine aS h (fun c4 h=> ?_) (fun c4 h=> ?_)
     ·exact rk hC [] [5,33,34] [(5,vI (wr (x3+1)))] [] [] (lE h)
     ·exact qk (lE h)
   ·exact rk hC [] [7,18,19] [(7,vI (wr (x4+1)))] [] [] (lE h)
  ·obtain rfl:=so h
   exact cV (rq hC [] [4,35] [(4,vI x3)] [] [] (qr eR))
theorem A3{p}{r}(h:fN n p=some r):VQ G 73 [] [V.agg (bQ p)] (ms 0 1 1 rI r) [ar 3 1 1 rI r]:=by
 unfold fN at h
 refine vq aO Tryz.func73 rfl fun w X β0 hC hg=> ?_
 refine rq hC [.z (.b (true))] [1,2] [(1,V.tp (bZ p))] [] [] (rq hC [.z (.nat 20)] [3,6] [(3,ms 20 1 1 rI [])] [(20,some (ar 3 1 1 rI []))] [(20,true)] (qs ?_))
 obtain⟨x1,hx1,h⟩:=bd h
 refine rq hC [oV (iU G hx1)] [7,8,9] [(9,vB (!x1))] [] [] (aS h (fun c1 h=> ?_) (fun c1 h=> ?_))
 ·obtain rfl:=so h
  exact rq hC [] [2,10] [(2,ms 20 1 1 rI [])] [] [] (qw (lk hC [.ren 2 20 0] [2] [(2,ms 0 1 1 rI [])] [(0,some (ar 3 1 1 rI [])),(20,none)] [(0,true)]) (qr eW))
 ·refine qk ?_
  obtain⟨x2,hx2,h⟩:=bd h
  refine rq hC [oC [] [21] (aD5 G hx2)] [4,11,12] [(4,ms 21 1 2 d8 x2)] [(21,some (ar 160 1 2 d8 x2))] [(21,true)] (qs (rq hC [] [5] [(5,vI 0)] [] [] (qb (bD (γ:=Nat) h (fun x_ g_=>aZ [(3,ms 20 g_ 1 rI x_.1),(4,ms 21 1 2 d8 x2),(5,vI x_.2)] [(20,ar 3 g_ 1 rI x_.1),(21,ar 160 1 2 d8 x2)] [20,21]) 1 (lS) ?_))))
  rintro again6 ⟨x3,x4⟩ g5 h
  refine qs (rq hC [oN d8 x2] (fr 13 4) [(16,vB (decide (x4<(x2.length:Int))))] [] [] (aS h (fun c2 h=> ?_) (fun c2 h=> ?_)))
  ·refine qk (qs (qb (qs ?_)))
   obtain⟨x7,hx7,x8,hx8,x9,hx9,h⟩:=lW h
   refine dk hC bF [oQ (jA d8 hx7),oX d8 hx7,oA (aP rI hx8),oQ (b6 (r:=rI) 1 (fun _=>rfl) x3),oQ (b6 (r:=rI) 1 (fun _=>rfl) x7.reads),oQ (jA d8 hx7),oX d8 hx7,.z (.int 0),oA (aP rI hx9),oQ (b6 (r:=rI) 1 (fun _=>rfl) x8),oQ (b6 (r:=rI) 1 (fun _=>rfl) [x7.write])] [3,19,20,21,22,23,24,25,26,27,28,29,30,31,32] [(3,ms 20 (g5+2) 1 rI x9)] [(20,some (ar 3 (g5+2) 1 rI x9))] [] (rq hC [oN rI x9] [33,34,35] [(35,vB (decide ((600:Int)<(x9.length:Int))))] [] [] (aS h (fun c3 h=> ?_) (fun c3 h=> ?_)))
   ·obtain⟨x10,hx10,x11,hx11,h⟩:=cT h
    obtain rfl:=so h
    exact rq hC [.z (.nat 22),.z (.at 3),.z (.fz 20 [3,37] []),oA (t6 rI hx10),oQ (b6 (r:=rI) 1 (fun _=>rfl) x9),oA (aP rI hx11),oQ (b6 (r:=rI) 1 (fun _=>rfl) []),oQ (b6 (r:=rI) 1 (fun _=>rfl) x10)] [2,3,36,37,38,39] [(2,ms 22 2 1 rI x11)] [(22,some (ar 3 2 1 rI x11)),(20,none)] [(22,true)] (qw (lk hC [.ren 2 22 0] [2] [(2,ms 0 1 1 rI x11)] [(0,some (ar 3 1 1 rI x11)),(22,none)] [(0,true)]) (qr eW))
   ·exact qk (rk hC [] [5,17,18] [(5,vI (wr (x4+1)))] [] [] ⟨(x9,wr (x4+1)),(g5+2),h,lS⟩)
  ·obtain rfl:=so h
   exact cV (rq hC [] [2,40] [(2,ms 20 g5 1 rI x3)] [] [] (qw (lk hC [.ren 2 20 0] [2] [(2,ms 0 1 1 rI x3)] [(0,some (ar 3 1 1 rI x3)),(20,none)] [(0,true)]) (qr eW)))
theorem kX{p}{size}{r}(h:eO n p size=some r):PQ G 21 [V.agg (bQ p),vI size] (vI r):=by
 unfold eO at h
 refine pq aO Tryz.func21 rfl fun w X hC=> ?_
 refine rq hC [.z (.b (true))] [2,4] [(2,V.tp (bZ p))] [] [] (qs ?_)
 obtain⟨x1,hx1,h⟩:=bd h
 refine rq hC [oV (iU G hx1)] [5,6,7] [(7,vB (!x1))] [] [] (aS h (fun c1 h=> ?_) (fun c1 h=> ?_))
 ·obtain rfl:=so h
  exact rq hC [] [4] [(4,vI (-1))] [] [] (qr eR)
 ·refine qk ?_
  obtain⟨x2,hx2,x3,hx3,h⟩:=cT h
  obtain rfl:=so h
  exact rq hC [oC [] [20] (A3 G hx2),.z (.b (true)),oV (U9 G hx3)] [4,8,9,10,11] [(4,vI x3)] [(20,some (ar 3 1 1 rI x2))] [(20,true)] (qr eR)
theorem R9(G:GS)(n:Nat)(a:Affine)(c0__a1:Int)(c1__a2:Int){r:Affine}(h:iR n a c0__a1 c1__a2=some r):PQ G 74 [V.agg (aK a),V.tp [T.int .i64 c0__a1],V.tp [T.int .i64 c1__a2]] (V.agg (aK r)):=by
 unfold iR at h
 refine pq aO Tryz.func74 rfl fun w X hC=> ?_
 refine rq hC [.z (.b (true)),.z (.nat 20)] [3,4] [(3,V.tp (aY a)),(4,V.ref 20 0)] [(20,sc [V.t T.nilS,vI 0])] [(20,true)] (qs ?_)
 obtain⟨x1,hx1,x2,hx2,h⟩:=cT h
 obtain rfl:=so h
 exact dk hC bF [oC [] [21] (iV G hx1),.z (.at 2),.z (.fz 21 [8] []),oC [] [22] (G9 G hx2)] (fr 5 5) [] [(21,none),(22,some (ar 3 1 1 rI x2.coefs)),(20,sc [ms 22 1 1 rI x2.coefs,vI x2.const])] [(21,true),(22,true)] (qw (lk hC [.fz 22 [] [20]] [] [] [(20,some (E.cells (aK x2))),(22,none)] []) (qr eR))
theorem R8(G:GS)(n:Nat)(a:Affine)(c0__a1:Int)(c1__a2:Affine){r:Affine}(h:f9 n a c0__a1 c1__a2=some r):PQ G 75 [V.agg (aK a),V.tp [T.int .i64 c0__a1],V.tp (aY c1__a2)] (V.agg (aK r)):=by
 unfold f9 at h
 refine pq aO Tryz.func75 rfl fun w X hC=> ?_
 refine rq hC [.z (.b (true)),.z (.nat 20)] [3,4] [(3,V.tp (aY a)),(4,V.ref 20 0)] [(20,sc [V.t T.nilS,vI 0])] [(20,true)] ?_
 obtain⟨x1,hx1,h⟩:=bd h
 obtain rfl:=so h
 exact rq hC [oC [] [21] (aAe G hx1)] (fr 5 5) [] [(21,some (ar 3 1 1 rI x1.coefs)),(20,sc [ms 21 1 1 rI x1.coefs,vI x1.const])] [(21,true)] (qw (lk hC [.fz 21 [] [20]] [] [] [(20,some (E.cells (aK x1))),(21,none)] []) (qr eR))
theorem aBm{p}{part}{loop}{by_}{r}(h:n8 n p part loop by_=some r):PQ G 22 [V.agg (bQ p),vI part,vI loop,vI by_] (V.tup [V.agg (bQ r.1),vB r.2]):=by
 unfold n8 at h
 refine pq aO Tryz.func22 rfl fun w X hC=> ?_
 refine rq hC [.z (.b (true)),.z (.b (true)),.z (.b (true)),.z (.nat 20)] [4,6,7,8,9] [(4,V.tp (bZ p)),(6,V.tp [T.int .i64 loop]),(7,V.tp [T.int .i64 by_]),(8,V.ref 20 0)] [(20,sc [V.t T.nilS,V.t T.nilS])] [(20,true)] (qs ?_)
 obtain⟨x1,hx1,h⟩:=bd h
 refine aR h (fun c1 h=> ?_) (fun c1 h=> ?_)
 ·refine rk hC [oV (tU G n p part loop hx1 c1),.z (.nat 21)] [10,11,12,14,15,16,17,18,19,20,21] [(10,V.ref 21 0),(11,V.t T.nilP),(12,vB false)] [(21,sc [vM aI [],vM aD []])] [(21,true)] (qs (qs (dk hC bF (sT 16) (fr 22 21) [(42,vB true)] [] [] (sL (b:=true) (by kernel_rfl) (fun c2=> ?_) (fun c2=>by cases c2)))))
  obtain rfl:=so h
  exact rq hC [] [9,43] [(9,vB false)] [(20,sc [V.t T.nilS,V.t T.nilS])] [] (qr eR)
 ·refine rk hC [oC [] [21,22] (tT G n p part loop hx1 c1),.z (.nat 23)] [10,11,12,14,15,16,17,18,19,20,21] [(10,V.ref 23 0),(11,V.eref 22 1 2 (0+Int.toNat part) 0),(12,vB true)] [(21,some (ar 77 1 2 aI x1.1.arrays)),(22,some (E.tree cK 0 1 (List.map aD x1.1.parts) [])),(23,sc [ms 21 1 2 aI x1.1.arrays,ms 22 1 2 aD x1.1.parts])] [(21,true),(22,true),(23,true)] (qs (vj h (fun x_=>aZ [(6,V.tp [T.int .i64 loop]),(7,V.tp [T.int .i64 by_]),(8,V.ref 20 0),(10,V.ref 23 0),(11,V.eref 22 1 2 (0+Int.toNat part) 0),(42,vB x_)] [(20,E.cells [V.t T.nilS,V.t T.nilS]),(21,ar 77 1 2 aI x1.1.arrays),(22,E.tree cK 0 1 (List.map aD x1.1.parts) []),(23,E.cells [ms 21 1 2 aI x1.1.arrays,ms 22 1 2 aD x1.1.parts])] [20,21,22,23]) (fun j2 h=> ?_) (fun x4 h=> ?_)))
  ·
   refine aR h (fun c2 h=> ?_) (fun c2 h=> ?_)
   ·obtain⟨x5,hx5,h⟩:=bd h
    refine qw (qS hC [.foc 22 24 (0+Int.toNat part) 0 (aD x5)] [] [] [(22,some (E.tree cK 0 1 (List.map aD x1.1.parts) [((0+Int.toNat part),0,ms 24 1 2 aC x5.nest)])),(24,some (E.tree cK 1 1 (List.map aC x5.nest) []))] [(24,true)] (a1 (lL aD hx5)) (by kernel_rfl)) (aR h (fun c4 h=> ?_) (fun c4 h=> ?_))
    ·obtain⟨x3,hx3,h⟩:=bd h
     exact dk hC bF ([eF,eF,eF]++rF 6 c2++[oX aD hx5,oF c2,oN aC x5.nest,oF c2,oF c2,oF c4,oF c4,oV (R3 G hx3),oF c4,oF c4]) (fr 22 21) [(42,vB (!x3))] [] [] ⟨!x3,h,S.le.trans (qS hC [.unf 22 24 (aD x5) (List.map aD x1.1.parts)] [] [] [(24,none),(22,some (E.tree cK 0 1 (List.map aD x1.1.parts) []))] [] (a4 (Eq.refl (List.map aC x5.nest).length) (Eq.refl cK) (lL aD hx5) (u9 aD hx5 rfl)) (by kernel_rfl)) (lS)⟩
    ·exact dk hC bF ([eF,eF,eF]++rF 6 c2++[oX aD hx5,oF c2,oN aC x5.nest,oF c2,oF c2]++rT 4 c4) (fr 22 21) [(42,vB true)] [] [] ⟨true,h,S.le.trans (qS hC [.unf 22 24 (aD x5) (List.map aD x1.1.parts)] [] [] [(24,none),(22,some (E.tree cK 0 1 (List.map aD x1.1.parts) []))] [] (a4 (Eq.refl (List.map aC x5.nest).length) (Eq.refl cK) (lL aD hx5) (u9 aD hx5 rfl)) (by kernel_rfl)) (lS)⟩
   ·exact dk hC bF ([eF,eF,eF]++rT 9 c2++sT 4) (fr 22 21) [(42,vB true)] [] [] (lE h)
  ·refine aS h (fun c3 h=> ?_) (fun c3 h=> ?_)
   ·obtain rfl:=so h
    exact rq hC [] [9,43] [(9,vB false)] [(20,sc [V.t T.nilS,V.t T.nilS])] [] (qr eR)
   ·refine qk (qs ?_)
    obtain⟨x5,hx5,x6,hx6,x7,hx7,h⟩:=lW h
    obtain⟨x8,hx8,x10,hx10,h⟩:=cT h
    refine dk hC bF [.z (.foc 22 25 (0+Int.toNat part) 0 (aD x5)),oX aD hx5,oQ (lL aD hx5),oQ (jA aC hx6),oC [25] [] (mM G n x5.nest (wr (loop+1)) x6 hx6 1 74 [T.int .i64 by_] [T.int .i64 loop] (fun q0=>iR n q0 by_ loop) (fun q0 r h=>R9 G n q0 by_ loop h) hx7 hx8)] (fr 44 9) [] [(22,some (E.tree cK 0 1 (List.map aD x1.1.parts) [((0+Int.toNat part),0,ms 25 1 2 aC x5.nest)])),(25,some (E.tree cK 1 1 (List.map aC x8) []))] [(25,true),(25,true)] (qw (qS hC [.unf 22 25 (aD x5) (List.map aD x10)] [] [] [(25,none),(22,some (E.tree cK 0 1 (List.map aD x10) []))] [] (a4 (gR aC hx8) (Eq.refl cK) (lL aD hx5) (uV aD hx10 rfl)) (by kernel_rfl)) (qs ?_))
    obtain⟨y1,hy1,h⟩:=bd h
    obtain⟨y2,hy2,h⟩:=bd h
    obtain⟨x9,hx9,h⟩:=bd h
    refine dk hC bF [oC [] [26] (iV G hy1),oC [] [27] (iV G hy2),.z (.at 3),.z (.fz 26 [55] []),.z (.at 3),.z (.fz 27 [59] []),oC [] [28] (G9 G hx9),.z (.nat 29)] [13,53,54,55,56,57,58,59,60] [(13,V.ref 29 0)] [(26,none),(27,none),(28,some (ar 3 1 1 rI x9.coefs)),(29,sc [ms 28 1 1 rI x9.coefs,vI x9.const])] [(26,true),(27,true),(28,true),(29,true)] (qw (lk hC [.fz 28 [] [29],.fp 29 [13]] [13] [(13,V.tp (aY x9))] [(28,none),(29,none)] []) ?_)
    obtain⟨x11,hx11,x12,hx12,h⟩:=cT h
    refine rq hC [oC [22] [] (mL G n x10 part (⟨x8,x5.body⟩:Part) (aDC hx10) 1 (wr (loop+2)) 75 [T.int .i64 loop] (aY x9) (fun q0=>f9 n q0 loop x9) (fun q0 r h=>R8 G n q0 loop x9 h) hx11 hx12)] (fr 61 5) [] [(22,some (E.tree cK 0 1 (List.map aD x12) []))] [(22,true)] (qw (qS hC [.shd 22,.lenc 23 1 (List.map aD x12).length,.fz 21 [] [23],.fz 22 [] [23]] [] [] [(21,none),(22,none),(23,sc [vM aI x1.1.arrays,vM aD x12])] [] (a1 ((gR aD hx10).trans (gR aD hx12))) (by kernel_rfl)) ?_)
    obtain⟨x13,hx13,h⟩:=bd h
    obtain rfl:=so h
    exact rq hC [oV (rR G hx13)] [9,66,67,68,69] [(9,vB x13.2)] [(20,some (E.cells (bQ x13.1)))] [] (qr eR)
theorem uZ(G:GS)(n:Nat)(code:List UInt8)(more:List UInt8){r:Bool}(h:gT n code more=some r):PQ G 5 [vM rY code,vM rY more] (vB r):=by
 unfold gT at h
 refine pq aO Tryz.func5 rfl fun w X hC=> ?_
 refine rq hC [] [4] [] [] [] (qs (vj h (fun x_=>aZ [(0,vM rY code),(1,vM rY more),(21,vB x_)] [] []) (fun j1 h=> ?_) (fun x2 h=> ?_)))
 ·
  refine aR h (fun c1 h=> ?_) (fun c1 h=> ?_)
  ·exact rk hC [oN rY code,oF c1,oF c1,oN rY more,oF c1,oF c1] (fr 14 8) [(21,vB (decide ((1048576:Int)<(more.length:Int))))] [] [] (lE h)
  ·exact rk hC ([oN rY code]++rT 4 c1) (fr 14 8) [(21,vB true)] [] [] (lE h)
 ·refine aS h (fun c2 h=> ?_) (fun c2 h=> ?_)
  ·obtain rfl:=so h
   exact rq hC [] [4] [(4,vB true)] [] [] (qr eR)
  ·refine qk ?_
   obtain⟨x3,hx3,h⟩:=bd h
   refine rq hC [oV (sI G hx3),.z (.nat 20)] [5,6,22,23,24,25,26] [(5,V.ref 20 0),(6,vI x3.2)] [(20,some (E.cells (bQ x3.1)))] [(20,true)] ?_
   obtain⟨x4,hx4,h⟩:=bd h
   refine rq hC [oV (aW G hx4)] [7,27,28,29] [(7,vI x4)] [] [] (qs (vj h (fun x_=>aZ [(1,vM rY more),(5,V.ref 20 0),(6,vI x3.2),(7,vI x4),(38,vB x_)] [(20,E.cells (bQ x3.1))] [20]) (fun j5 h=> ?_) (fun x7 h=> ?_)))
   ·
    obtain⟨x6,hx6,h⟩:=bd h
    refine aR h (fun c3 h=> ?_) (fun c3 h=> ?_)
    ·exact rk hC ([oV (kX G hx6)]++rF 3 c3) (fr 30 9) [(38,vB (decide (x4<0)))] [] [] (lE h)
    ·exact rk hC ([oV (kX G hx6)]++rT 3 c3) (fr 30 9) [(38,vB true)] [] [] (lE h)
   ·refine aS h (fun c4 h=> ?_) (fun c4 h=> ?_)
    ·obtain⟨x8,hx8,h⟩:=bd h
     obtain rfl:=so h
     exact rq hC [oV (kX G hx8)] [4,39,40,41,42,43] [(4,vB (decide (x4=x8)))] [] [] (qr eR)
    ·refine qk ?_
     obtain⟨x9,hx9,h⟩:=bd h
     refine rq hC [oN rY more,oQ (show(2:Int)≠0 by decide),oV (aBm G hx9),.z (.nat 21)] [8,9,44,45,46,47,48,49,50,51,52] [(8,V.ref 21 0),(9,vB x9.2)] [(21,some (E.cells (bQ x9.1)))] [(21,true)] ?_
     obtain⟨x10,hx10,h⟩:=bd h
     refine rq hC [oV (V8 G hx10),.z (.nat 22)] [10,11,53,54,55,56,57] [(10,V.ref 22 0),(11,vB x10.2)] [(22,some (E.cells (bQ x10.1)))] [(22,true)] ?_
     obtain⟨x11,hx11,h⟩:=bd h
     refine rq hC [oV (V6 G hx11),.z (.nat 23)] [12,13,58,59,60,61,62] [(12,V.ref 23 0),(13,vB x11.2)] [(23,some (E.cells (bQ x11.1)))] [(23,true)] (vj h (fun x_=>aZ [(4,vB x_)] [(20,E.cells (bQ x3.1)),(21,E.cells (bQ x9.1)),(22,E.cells (bQ x10.1)),(23,E.cells (bQ x11.1))] [20,21,22,23]) (fun j12 h=> ?_) (fun x20 h=> ?_))
     ·
      refine aR h (fun c5 h=> ?_) (fun c5 h=> ?_)
      ·obtain⟨x13,hx13,h⟩:=bd h
       refine aR h (fun c6 h=> ?_) (fun c6 h=> ?_)
       ·exact rk hC (rF 3 c5++[oV (aW G hx13)]++rF 3 c5++rF 5 c6++sF 5) [4,63,64,65,66,67,68,69,70,71,72,73,74,75,76,77,78,79,80,81,82,83,84,85,86,87,88,89,90,91,92,93] [(4,vB false)] [] [] (lE h)
       ·refine aR h (fun c7 h=> ?_) (fun c7 h=> ?_)
        ·obtain⟨x14,hx14,h⟩:=bd h
         refine aR h (fun c8 h=> ?_) (fun c8 h=> ?_)
         ·exact rk hC (rF 3 c5++[oV (aW G hx13)]++rF 3 c5++rT 3 c6++rF 3 c7++[oV (aW G hx14),oF c7,oF c7,oT c6,oF c7,oT c6]++rF 5 c8) [4,63,64,65,66,67,68,69,70,71,72,73,74,75,76,77,78,79,80,81,82,83,84,85,86,87,88,89,90,91,92,93] [(4,vB false)] [] [] (lE h)
         ·refine aR h (fun c9 h=> ?_) (fun c9 h=> ?_)
          ·obtain⟨x15,hx15,h⟩:=bd h
           exact rk hC (rF 3 c5++[oV (aW G hx13)]++rF 3 c5++rT 3 c6++rF 3 c7++[oV (aW G hx14),oF c7,oF c7,oT c6,oF c7,oT c6]++rT 3 c8++rF 3 c9++[oV (aW G hx15),oF c9,oF c9,oT c8,oF c9,oT c8]) [4,63,64,65,66,67,68,69,70,71,72,73,74,75,76,77,78,79,80,81,82,83,84,85,86,87,88,89,90,91,92,93] [(4,vB (decide (x15=x4)))] [] [] (lE h)
          ·exact rk hC (rF 3 c5++[oV (aW G hx13)]++rF 3 c5++rT 3 c6++rF 3 c7++[oV (aW G hx14),oF c7,oF c7,oT c6,oF c7,oT c6]++rT 3 c8++rT 5 c9++[oT c8,oT c9,oT c8]) [4,63,64,65,66,67,68,69,70,71,72,73,74,75,76,77,78,79,80,81,82,83,84,85,86,87,88,89,90,91,92,93] [(4,vB true)] [] [] (lE h)
        ·refine aR h (fun c10 h=> ?_) (fun c10 h=> ?_)
         ·obtain⟨x16,hx16,h⟩:=bd h
          exact rk hC (rF 3 c5++[oV (aW G hx13)]++rF 3 c5++rT 3 c6++rT 5 c7++[oT c6,oT c7,oT c6,eT,eT,eT]++rF 3 c10++[oV (aW G hx16),oF c10,oF c10,eT,oF c10,eT]) [4,63,64,65,66,67,68,69,70,71,72,73,74,75,76,77,78,79,80,81,82,83,84,85,86,87,88,89,90,91,92,93] [(4,vB (decide (x16=x4)))] [] [] (lE h)
         ·exact rk hC (rF 3 c5++[oV (aW G hx13)]++rF 3 c5++rT 3 c6++rT 5 c7++[oT c6,oT c7,oT c6,eT,eT,eT]++rT 5 c10++[eT,oT c10,eT]) [4,63,64,65,66,67,68,69,70,71,72,73,74,75,76,77,78,79,80,81,82,83,84,85,86,87,88,89,90,91,92,93] [(4,vB true)] [] [] (lE h)
      ·refine aR h (fun c11 h=> ?_) (fun c11 h=> ?_)
       ·obtain⟨x17,hx17,h⟩:=bd h
        refine aR h (fun c12 h=> ?_) (fun c12 h=> ?_)
        ·exact rk hC (rT 6 c5++[eT,eT,eT]++rF 3 c11++[oV (aW G hx17),oF c11,oF c11,eT,oF c11,eT]++rF 5 c12) [4,63,64,65,66,67,68,69,70,71,72,73,74,75,76,77,78,79,80,81,82,83,84,85,86,87,88,89,90,91,92,93] [(4,vB false)] [] [] (lE h)
        ·refine aR h (fun c13 h=> ?_) (fun c13 h=> ?_)
         ·obtain⟨x18,hx18,h⟩:=bd h
          exact rk hC (rT 6 c5++[eT,eT,eT]++rF 3 c11++[oV (aW G hx17),oF c11,oF c11,eT,oF c11,eT]++rT 3 c12++rF 3 c13++[oV (aW G hx18),oF c13,oF c13,oT c12,oF c13,oT c12]) [4,63,64,65,66,67,68,69,70,71,72,73,74,75,76,77,78,79,80,81,82,83,84,85,86,87,88,89,90,91,92,93] [(4,vB (decide (x18=x4)))] [] [] (lE h)
         ·exact rk hC (rT 6 c5++[eT,eT,eT]++rF 3 c11++[oV (aW G hx17),oF c11,oF c11,eT,oF c11,eT]++rT 3 c12++rT 5 c13++[oT c12,oT c13,oT c12]) [4,63,64,65,66,67,68,69,70,71,72,73,74,75,76,77,78,79,80,81,82,83,84,85,86,87,88,89,90,91,92,93] [(4,vB true)] [] [] (lE h)
       ·refine aR h (fun c14 h=> ?_) (fun c14 h=> ?_)
        ·obtain⟨x19,hx19,h⟩:=bd h
         exact rk hC (rT 6 c5++[eT,eT,eT]++rT 5 c11++[eT,oT c11]++sT 4++rF 3 c14++[oV (aW G hx19),oF c14,oF c14,eT,oF c14,eT]) [4,63,64,65,66,67,68,69,70,71,72,73,74,75,76,77,78,79,80,81,82,83,84,85,86,87,88,89,90,91,92,93] [(4,vB (decide (x19=x4)))] [] [] (lE h)
        ·exact rk hC (rT 6 c5++[eT,eT,eT]++rT 5 c11++[eT,oT c11]++sT 4++rT 5 c14++[eT,oT c14,eT]) [4,63,64,65,66,67,68,69,70,71,72,73,74,75,76,77,78,79,80,81,82,83,84,85,86,87,88,89,90,91,92,93] [(4,vB true)] [] [] (lE h)
     ·obtain rfl:=so h
      exact qr eR
end Go.Lift
