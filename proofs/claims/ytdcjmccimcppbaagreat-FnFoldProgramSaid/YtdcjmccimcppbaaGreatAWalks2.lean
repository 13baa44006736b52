/- The walks: the code computes what the plain functions say. -/
import Derived.Test.YtdcjmccimcppbaaGreatAModels
import Derived.Test.YtdcjmccimcppbaaGreatAWalks1
set_option maxRecDepth 10000
set_option linter.unusedVariables false
namespace Go.Lift
open Go Go.Proofs
variable (G:GS) {n:Nat}
theorem K6{kind}{r}(h:sS n kind=some r):PQ G 236 [vI kind] (vB r):=by
 unfold sS at h
 refine pq aN Tryz.func236 rfl fun w X hC=> ?_
 refine rq hC [] [2] [] [] [] ?_
 obtain⟨x1,hx1,h⟩:=bd h
 obtain rfl:=so h
 exact rq hC [oV (bJ G hx1)] [2,3,4] [(2,vB x1)] [] [] (qr eR)
theorem eE{e}{n_a1}{r}(h:dV n e n_a1=some r):PQ G 237 [V.agg (aT e),vI n_a1] (vB r):=by
 unfold dV at h
 refine pq aN Tryz.func237 rfl fun w X hC=> ?_
 refine rq hC [.z (.b (true))] [2,4] [(2,V.tp (cI e))] [] [] (vj h (fun x_=>aZ [(4,vB x_)] [] []) (fun j1 h=> ?_) (fun x2 h=> ?_))
 ·
  refine aO h (fun c1 h=> ?_) (fun c1 h=> ?_)
  ·exact rk hC (rF 5 c1) (fr 4 10) [(4,vB false)] [] [] (lE h)
  ·exact rk hC (rT 5 c1) (fr 4 10) [(4,vB (decide (e.num=n_a1)))] [] [] (lE h)
 ·obtain rfl:=so h
  exact qr eR
theorem aF1(G:GS): ∀(n:Nat) (e:Expr) {r:Expr} (h:i_fold n e=some r),PQ G 158 [V.agg (aT e)] (V.agg (aT r)):=by
 intro n
 induction n with
 |zero=>intro e r h;rw [i_fold.eq_def] at h;cases h
 |succ n ih=>
  intro e r h
  rw [i_fold.eq_def] at h;dsimp only at h
  refine pq aN Tryz.func158 rfl fun w X hC=> ?_
  refine rq hC [.z (.b (true)),.z (.nat 20)] [1,2] [(1,V.tp (cI e)),(2,V.ref 20 0)] [(20,sc [vI 0,vI 0,V.t T.nilS,vI 0,vS [],V.t T.nilS,V.t T.nilS])] [(20,true)] (qs (vj h (fun x_=>aZ [(1,V.tp (cI e)),(2,V.ref 20 0),(22,vB x_)] [(20,E.cells [vI 0,vI 0,V.t T.nilS,vI 0,vS [],V.t T.nilS,V.t T.nilS])] [20]) (fun j1 h=> ?_) (fun x3 h=> ?_)))
  ·
   refine aO h (fun c1 h=> ?_) (fun c1 h=> ?_)
   ·exact rk hC (rF 5 c1++sF 5) (fr 8 15) [(22,vB false)] [] [] (lE h)
   ·obtain⟨x2,hx2,h⟩:=bd h
    refine aO h (fun c2 h=> ?_) (fun c2 h=> ?_)
    ·exact rk hC (rT 3 c1++[oV (eG G hx2),oT c1,oT c1]++rF 5 c2) (fr 8 15) [(22,vB false)] [] [] (lE h)
    ·exact rk hC (rT 3 c1++[oV (eG G hx2),oT c1,oT c1]++rT 5 c2) (fr 8 15) [(22,vB (decide ((0:Int)≤e.index.const)))] [] [] (lE h)
  ·refine aP h (fun c3 h=> ?_) (fun c3 h=> ?_)
   ·obtain⟨x4,hx4,h⟩:=bd h
    obtain rfl:=so h
    exact rq hC [oV (Y1 G hx4)] (fr 23 4) [] [(20,some (E.cells (aT x4)))] [] (qr eR)
   ·refine qk (qs ?_)
    obtain⟨x5,hx5,h⟩:=bd h
    refine rq hC [oV (K6 G hx5)] (fr 27 4) [(30,vB (!x5))] [] [] (aP h (fun c4 h=> ?_) (fun c4 h=> ?_))
    ·obtain rfl:=so h
     exact rq hC [] [31] [] [(20,some (E.cells (aT e)))] [] (qr eR)
    ·refine qk (qs ?_)
     obtain⟨x6,hx6,x7,hx7,x8,hx8,h⟩:=mL h
     obtain⟨x9,hx9,h⟩:=bd h
     refine dk hC bQ [.z (.row (cY x6)),oQ (dG aH hx6 (bW x6)),oV (ih x6 hx7),.z (.row (cY x8)),oQ (dG aH hx8 (bW x8)),oV (ih x8 hx9),.z (.nat 21),.z (.nat 22)] [3,4,32,33,34,35,36,37,38,39,40,41] [(3,V.ref 21 0),(4,V.ref 22 0)] [(21,some (E.cells (aT x7))),(22,some (E.cells (aT x9)))] [(21,true),(22,true)] (rq hC [.z (.int 2),.z (.rows (List.map aH [x7,x9])),.z (.nat 23),oQ (X5 x7 x9)] [5,42,43,44,45,46,47] [(5,V.ref 23 0)] [(23,sc [vI e.kind,vI 0,V.t T.nilS,vI 0,vS [],V.t T.nilS,vM aH [x7,x9]])] [(23,true)] (rq hC [] [6,48,49,50] [(6,vB (decide (e.kind=6)))] [] [] (qs (vj h (fun x_=>aZ [(1,V.tp (cI e)),(2,V.ref 20 0),(3,V.ref 21 0),(4,V.ref 22 0),(5,V.ref 23 0),(6,vB (decide (e.kind=6))),(58,vB x_)] [(20,E.cells [vI 0,vI 0,V.t T.nilS,vI 0,vS [],V.t T.nilS,V.t T.nilS]),(21,E.cells (aT x7)),(22,E.cells (aT x9)),(23,E.cells [vI e.kind,vI 0,V.t T.nilS,vI 0,vS [],V.t T.nilS,vM aH [x7,x9]])] [20,21,22,23]) (fun j10 h=> ?_) (fun x11 h=> ?_)))))
     ·
      refine aO h (fun c5 h=> ?_) (fun c5 h=> ?_)
      ·exact rk hC (rF 4 c5) (fr 51 8) [(58,vB false)] [] [] (lE h)
      ·exact rk hC (rT 4 c5) (fr 51 8) [(58,vB (decide (x9.kind=1)))] [] [] (lE h)
     ·refine aP h (fun c6 h=> ?_) (fun c6 h=> ?_)
      ·refine rq hC [] [7,59,60,61,62,63] [(7,vI (wr (x7.num+x9.num)))] [] [] (vj h (fun x_=>aZ [(2,V.ref 20 0),(5,V.ref 23 0),(7,vI x_)] [(20,E.cells [vI 0,vI 0,V.t T.nilS,vI 0,vS [],V.t T.nilS,V.t T.nilS]),(21,E.cells (aT x7)),(22,E.cells (aT x9)),(23,E.cells [vI e.kind,vI 0,V.t T.nilS,vI 0,vS [],V.t T.nilS,vM aH [x7,x9]])] [20,21,22,23]) (fun j12 h=> ?_) (fun x13 h=> ?_))
       ·
        refine rq hC [] [64,65] [(65,vI e.kind)] [] [] (qb (rq hC [] [66,67] [(66,vB (decide (e.kind=5)))] [] [] (aP h (fun c7 h=> ?_) (fun c7 h=> ?_))))
        ·exact rk hC [] [7,68,69,70,71,72] [(7,vI (wr (x7.num-x9.num)))] [] [] (lE h)
        ·refine rq hC [] [73,74] [(73,vB (decide (e.kind=6)))] [] [] (aP h (fun c8 h=> ?_) (fun c8 h=> ?_))
         ·exact rk hC [] [7,75,76,77,78,79] [(7,vI (wr (x7.num*x9.num)))] [] [] (lE h)
         ·exact qk (lE h)
       ·refine qs ?_
        obtain⟨x14,hx14,h⟩:=bd h
        refine rq hC [oV (bJ G hx14)] [80,81] [(81,vB x14)] [] [] (aP h (fun c9 h=> ?_) (fun c9 h=> ?_))
        ·obtain⟨x15,hx15,h⟩:=bd h
         obtain rfl:=so h
         exact rq hC [oV (Y1 G hx15)] [82,83] [] [(20,some (E.cells (aT x15)))] [] (qr eR)
        ·obtain rfl:=so h
         exact qk (rq hC [] [84] [] [(20,sc [vI e.kind,vI 0,V.t T.nilS,vI 0,vS [],V.t T.nilS,vM aH [x7,x9]])] [] (qr eR))
      ·refine qk (qs (qb (vj h (fun x_=>aZ [(1,V.tp (cI e)),(2,V.ref 20 0),(3,V.ref 21 0),(4,V.ref 22 0),(5,V.ref 23 0),(6,vB (decide (e.kind=6))),(85,vB x_)] [(20,E.cells [vI 0,vI 0,V.t T.nilS,vI 0,vS [],V.t T.nilS,V.t T.nilS]),(21,E.cells (aT x7)),(22,E.cells (aT x9)),(23,E.cells [vI e.kind,vI 0,V.t T.nilS,vI 0,vS [],V.t T.nilS,vM aH [x7,x9]])] [20,21,22,23]) (fun j16 h=> ?_) (fun x20 h=> ?_))))
       ·
        refine aO h (fun c10 h=> ?_) (fun c10 h=> ?_)
        ·refine aO h (fun c11 h=> ?_) (fun c11 h=> ?_)
         ·exact rk hC (rF 3 c10++[eF,eF,oF c11,oF c11,eF,oF c11,eF]) (fr 85 14) [(85,vB false)] [] [] (lE h)
         ·obtain⟨x17,hx17,h⟩:=bd h
          exact rk hC (rF 3 c10++[eF,eF,oT c11,oT c11,oV (eE G hx17),eF,oT c11,eF]) (fr 85 14) [(85,vB x17)] [] [] (lE h)
        ·obtain⟨x18,hx18,h⟩:=bd h
         refine aO h (fun c12 h=> ?_) (fun c12 h=> ?_)
         ·refine aO h (fun c13 h=> ?_) (fun c13 h=> ?_)
          ·exact rk hC [oT c10,oT c10,oV (eE G hx18),oT c10,oF c12,oF c12,oF c13,oF c13,oF c12,oF c13,oF c12] (fr 85 14) [(85,vB false)] [] [] (lE h)
          ·obtain⟨x19,hx19,h⟩:=bd h
           exact rk hC [oT c10,oT c10,oV (eE G hx18),oT c10,oF c12,oF c12,oT c13,oT c13,oV (eE G hx19),oF c12,oT c13,oF c12] (fr 85 14) [(85,vB x19)] [] [] (lE h)
         ·exact rk hC ([oT c10,oT c10,oV (eE G hx18),oT c10]++rT 4 c12) (fr 85 14) [(85,vB true)] [] [] (lE h)
       ·refine aP h (fun c14 h=> ?_) (fun c14 h=> ?_)
        ·obtain rfl:=so h
         exact rq hC [] [99] [] [(20,some (E.cells (aT x7)))] [] (qr eR)
        ·refine vj h (fun x_=>aZ [(2,V.ref 20 0),(3,V.ref 21 0),(4,V.ref 22 0),(5,V.ref 23 0),(6,vB (decide (e.kind=6))),(100,vB x_)] [(20,E.cells [vI 0,vI 0,V.t T.nilS,vI 0,vS [],V.t T.nilS,V.t T.nilS]),(21,E.cells (aT x7)),(22,E.cells (aT x9)),(23,E.cells [vI e.kind,vI 0,V.t T.nilS,vI 0,vS [],V.t T.nilS,vM aH [x7,x9]])] [20,21,22,23]) (fun j21 h=> ?_) (fun x25 h=> ?_)
         ·
          refine aO h (fun c15 h=> ?_) (fun c15 h=> ?_)
          ·refine aO h (fun c16 h=> ?_) (fun c16 h=> ?_)
           ·exact rk hC (rF 3 c15++[eF,eF,oF c16,oF c16,eF,oF c16,eF]) (fr 100 15) [(100,vB false)] [] [] (lE h)
           ·obtain⟨x22,hx22,h⟩:=bd h
            exact rk hC (rF 3 c15++[eF,eF,oT c16,oT c16,oV (eE G hx22),eF,oT c16,eF]) (fr 100 15) [(100,vB x22)] [] [] (lE h)
          ·obtain⟨x23,hx23,h⟩:=bd h
           refine aO h (fun c17 h=> ?_) (fun c17 h=> ?_)
           ·refine aO h (fun c18 h=> ?_) (fun c18 h=> ?_)
            ·exact rk hC [oT c15,oT c15,oV (eE G hx23),oT c15,oF c17,oF c17,oF c18,oF c18,oF c17,oF c18,oF c17] (fr 100 15) [(100,vB false)] [] [] (lE h)
            ·obtain⟨x24,hx24,h⟩:=bd h
             exact rk hC [oT c15,oT c15,oV (eE G hx23),oT c15,oF c17,oF c17,oT c18,oT c18,oV (eE G hx24),oF c17,oT c18,oF c17] (fr 100 15) [(100,vB x24)] [] [] (lE h)
           ·exact rk hC ([oT c15,oT c15,oV (eE G hx23),oT c15]++rT 4 c17) (fr 100 15) [(100,vB true)] [] [] (lE h)
         ·refine aP h (fun c19 h=> ?_) (fun c19 h=> ?_)
          ·obtain rfl:=so h
           exact rq hC [] [115] [] [(20,some (E.cells (aT x9)))] [] (qr eR)
          ·refine vj h (fun x_=>aZ [(2,V.ref 20 0),(5,V.ref 23 0),(116,vB x_)] [(20,E.cells [vI 0,vI 0,V.t T.nilS,vI 0,vS [],V.t T.nilS,V.t T.nilS]),(21,E.cells (aT x7)),(22,E.cells (aT x9)),(23,E.cells [vI e.kind,vI 0,V.t T.nilS,vI 0,vS [],V.t T.nilS,vM aH [x7,x9]])] [20,21,22,23]) (fun j26 h=> ?_) (fun x29 h=> ?_)
           ·
            refine aO h (fun c20 h=> ?_) (fun c20 h=> ?_)
            ·exact rk hC (rF 5 c20) (fr 116 10) [(116,vB false)] [] [] (lE h)
            ·obtain⟨x27,hx27,h⟩:=bd h
             refine aO h (fun c21 h=> ?_) (fun c21 h=> ?_)
             ·obtain⟨x28,hx28,h⟩:=bd h
              exact rk hC [oT c20,oT c20,oV (eE G hx27),oT c20,oF c21,oF c21,oV (eE G hx28),oT c20,oF c21,oT c20] (fr 116 10) [(116,vB x28)] [] [] (lE h)
             ·exact rk hC [oT c20,oT c20,oV (eE G hx27),oT c20,oT c21,oT c21,oT c20,oT c21,oT c20] (fr 116 10) [(116,vB true)] [] [] (lE h)
           ·refine aP h (fun c22 h=> ?_) (fun c22 h=> ?_)
            ·obtain⟨x30,hx30,h⟩:=bd h
             obtain rfl:=so h
             exact rq hC [oV (Y1 G hx30)] [126] [] [(20,some (E.cells (aT x30)))] [] (qr eR)
            ·obtain rfl:=so h
             exact qk (rq hC [] [127] [] [(20,sc [vI e.kind,vI 0,V.t T.nilS,vI 0,vS [],V.t T.nilS,vM aH [x7,x9]])] [] (qr eR))
theorem aCH{s}{r}(h:nW n s=some r):PQ G 66 [V.agg (cD s)] (V.agg (cD r)):=by
 unfold nW at h
 refine pq aN Tryz.func66 rfl fun w X hC=> ?_
 refine rq hC [.z (.b (true)),.z (.nat 20)] [1,2] [(1,V.tp (mI s)),(2,V.ref 20 0)] [(20,sc [vS [],V.t T.nilS,vI 0,vI 0,V.t T.nilS,vI 0,vS [],V.t T.nilS,V.t T.nilS])] [(20,true)] ?_
 obtain⟨x1,hx1,h⟩:=bd h
 refine rq hC [oV (zB G hx1),.z (.nat 21)] [3,4,5] [(3,V.ref 21 0)] [(21,some (E.cells (cD x1)))] [(21,true)] ?_
 obtain⟨x2,hx2,h⟩:=bd h
 obtain rfl:=so h
 exact rq hC [oV (aF1 G n x1.value hx2)] (fr 6 4) [] [(21,sc [vS x1.write.array,vM aB x1.write.subs,vI x2.kind,vI x2.num,vM rI x2.index.coefs,vI x2.index.const,vS x2.read.array,vM aB x2.read.subs,vM aH x2.kids])] [] (rq hC [] [10] [] [(20,sc [vS x1.write.array,vM aB x1.write.subs,vI x2.kind,vI x2.num,vM rI x2.index.coefs,vI x2.index.const,vS x2.read.array,vM aB x2.read.subs,vM aH x2.kids])] [] (qr eR))
theorem fE{s}{r}(h:nA n s=some r):PQ G 250 [vS s] (vB r):=by
 unfold nA at h
 refine pq aN Tryz.func250 rfl fun w X hC=> ?_
 refine rq hC [] [2] [] [] [] (vj h (fun x_=>aZ [(2,vB x_)] [] []) (fun j1 h=> ?_) (fun x3 h=> ?_))
 ·
  refine aO h (fun c1 h=> ?_) (fun c1 h=> ?_)
  ·exact rk hC (rF 3 c1) (fr 2 8) [(2,vB false)] [] [] (lE h)
  ·obtain⟨x2,hx2,h⟩:=bd h
   exact rk hC [oT c1,oT c1,oV (G.contains [65,66,67,68] s x2 hx2),oT c1] (fr 2 8) [(2,vB x2)] [] [] (lE h)
 ·obtain rfl:=so h
  exact qr eR
theorem wU(G:GS)(n:Nat)(s:List Int)(fF:FuncId)(f:Int→Option Bool)(hf: ∀(q0:Int) r,f q0=some r→PQ G fF [vI q0] (vB r)){r:Int}(h:jA n s f=some r):PQ G 292 [vM rI s,V.fn fF []] (vI r):=by
 unfold jA at h
 refine pq aN Tryz.func292 rfl fun w X hC=> ?_
 refine rq hC [] [4] [] [] [] (qs (rq hC [oN rI s] [6,7,8] [(7,vI (s.length:Int)),(8,vI 0)] [] [] (qb (kR h (fun x_=>aZ [(0,vM rI s),(1,V.fn fF []),(7,vI (s.length:Int)),(8,vI x_)] [] []) lS ?_))))
 rintro again2 x1 h
 refine rq hC [] [9] [(9,vB (decide (x1<(s.length:Int))))] [] [] (qs (aP h (fun c1 h=> ?_) (fun c1 h=> ?_)))
 ·refine qk (qs (qb (rq hC [] [5,10] [(5,vI x1)] [] [] ?_)))
  obtain⟨x3,hx3,x4,hx4,h⟩:=dS h
  refine rq hC [oR rI hx3,oV (hf x3 _ hx4)] (fr 11 6) [(16,vB x4)] [] [] (aP h (fun c2 h=> ?_) (fun c2 h=> ?_))
  ·obtain rfl:=so h
   exact rq hC [] [4,17] [(4,vI x1)] [] [] (qr eR)
  ·exact qk (rk hC [] [8,18] [(8,vI (wr (x1+1)))] [] [] (lE h))
 ·obtain rfl:=so h
  exact dB (rq hC [] [4] [(4,vI (-1))] [] [] (qr eR))
theorem dP(G:GS)(n:Nat)(s:List Int)(fF:FuncId)(f:Int→Option Bool)(hf: ∀(q0:Int) r,f q0=some r→PQ G fF [vI q0] (vB r)){r:Bool}(h:bH n s f=some r):PQ G 226 [vM rI s,V.fn fF []] (vB r):=by
 unfold bH at h
 refine pq aN Tryz.func226 rfl fun w X hC=> ?_
 refine rq hC [] [4] [] [] [] ?_
 obtain⟨x1,hx1,h⟩:=bd h
 obtain rfl:=so h
 exact rq hC [oV (wU G n s fF f hf hx1)] (fr 4 5) [(4,vB (decide ((0:Int)≤x1)))] [] [] (qr eR)
theorem s5(G:GS)(n:Nat)(n_a0:Int){r:Bool}(h:d8 n n_a0=some r):PQ G 251 [vI n_a0] (vB r):=by
 unfold d8 at h
 refine pq aN Tryz.func251 rfl fun w X hC=> ?_
 refine rq hC [] [2] [] [] [] ?_
 obtain⟨x1,hx1,h⟩:=bd h
 obtain rfl:=so h
 exact rq hC [oV (bJ G hx1)] (fr 2 4) [(2,vB (!x1))] [] [] (qr eR)
theorem wV{list}{r}(h:nX n list=some r):PQ G 174 [vM aK list] (vB r):=by
 unfold nX at h
 refine pq aN Tryz.func174 rfl fun w X hC=> ?_
 refine rq hC [] [2] [] [] [] (qs (rq hC [oN aK list] [5,6,7] [(5,vM aK list),(6,vI (list.length:Int)),(7,vI 0)] [] [] (qb (kR h (fun x_=>aZ [(0,vM aK list),(5,vM aK list),(6,vI (list.length:Int)),(7,vI x_)] [] []) lS ?_))))
 rintro again2 x1 h
 refine rq hC [] [8] [(8,vB (decide (x1<(list.length:Int))))] [] [] (qs (aP h (fun c1 h=> ?_) (fun c1 h=> ?_)))
 ·refine qk (qs (qb ?_))
  obtain⟨x3,hx3,h⟩:=bd h
  refine rq hC [oR aK hx3,.z (.nat 20)] [3,4,9,10,11] [(3,vI x1),(4,V.ref 20 0)] [(20,sc [vS x3.name,vM rI x3.dims])] [(20,true)] (vj h (fun x_=>aZ [(0,vM aK list),(5,vM aK list),(6,vI (list.length:Int)),(7,vI x1),(42,vB x_)] [(20,E.cells [vS x3.name,vM rI x3.dims])] [20]) (fun j4 h=> ?_) (fun x11 h=> ?_))
  ·
   obtain⟨x5,hx5,h⟩:=bd h
   refine aO h (fun c2 h=> ?_) (fun c2 h=> ?_)
   ·refine aO h (fun c3 h=> ?_) (fun c3 h=> ?_)
    ·obtain⟨x6,hx6,h⟩:=bd h
     refine aO h (fun c4 h=> ?_) (fun c4 h=> ?_)
     ·obtain⟨x7,hx7,h⟩:=bd h
      exact dk hC bQ ([oV (fE G hx5)]++rF 3 c2++rF 9 c3++[oF c2,oF c3,oF c2,eF,eF,eF,oN rI x3.dims,eF,oV (bJ G hx6),eF,eF]++rF 3 c4++[oV (dP G n x3.dims 251 (fun q0=>d8 n q0) (fun q0 r h=>s5 G n q0 h) hx7),oF c4]) (fr 12 31) [(42,vB x7)] [] [] (lE h)
     ·exact dk hC bQ ([oV (fE G hx5)]++rF 3 c2++rF 9 c3++[oF c2,oF c3,oF c2,eF,eF,eF,oN rI x3.dims,eF,oV (bJ G hx6),eF,eF]++rT 4 c4) (fr 12 31) [(42,vB true)] [] [] (lE h)
    ·obtain⟨x8,hx8,h⟩:=bd h
     refine aO h (fun c5 h=> ?_) (fun c5 h=> ?_)
     ·obtain⟨x9,hx9,h⟩:=bd h
      refine aO h (fun c6 h=> ?_) (fun c6 h=> ?_)
      ·obtain⟨x10,hx10,h⟩:=bd h
       exact dk hC bQ ([oV (fE G hx5)]++rF 3 c2++rT 4 c3++[oR aK hx8]++rT 5 c3++[oF c2,oT c3,oF c2]++rF 3 c5++[oN rI x3.dims,oF c5,oV (bJ G hx9),oF c5,oF c5]++rF 3 c6++[oV (dP G n x3.dims 251 (fun q0=>d8 n q0) (fun q0 r h=>s5 G n q0 h) hx10),oF c6]) (fr 12 31) [(42,vB x10)] [] [] (lE h)
      ·exact dk hC bQ ([oV (fE G hx5)]++rF 3 c2++rT 4 c3++[oR aK hx8]++rT 5 c3++[oF c2,oT c3,oF c2]++rF 3 c5++[oN rI x3.dims,oF c5,oV (bJ G hx9),oF c5,oF c5]++rT 4 c6) (fr 12 31) [(42,vB true)] [] [] (lE h)
     ·exact dk hC bQ ([oV (fE G hx5)]++rF 3 c2++rT 4 c3++[oR aK hx8]++rT 5 c3++[oF c2,oT c3,oF c2]++rT 6 c5++sT 4) (fr 12 31) [(42,vB true)] [] [] (lE h)
   ·exact dk hC bQ ([oV (fE G hx5)]++rT 5 c2++sT 10) (fr 12 31) [(42,vB true)] [] [] (lE h)
  ·refine aP h (fun c7 h=> ?_) (fun c7 h=> ?_)
   ·obtain rfl:=so h
    exact rq hC [] [2] [(2,vB false)] [] [] (qr eR)
   ·exact qk (rk hC [] [7,43] [(7,vI (wr (x1+1)))] [] [] (lE h))
 ·obtain rfl:=so h
  exact dB (rq hC [oN aK list] [2,44,45,46] [(2,vB (decide ((list.length:Int)≤4)))] [] [] (qr eR))
theorem w4(G:GS)(n:Nat)(c:Int){r:Bool}(h:eQ n c=some r):PQ G 347 [vI c] (vB r):=by
 unfold eQ at h
 refine pq aN Tryz.func347 rfl fun w X hC=> ?_
 refine rq hC [] [2] [] [] [] ?_
 obtain⟨x1,hx1,h⟩:=bd h
 obtain rfl:=so h
 exact rq hC [oV (bJ G hx1)] (fr 2 4) [(2,vB (!x1))] [] [] (qr eR)
theorem zC{n_a0}{r}(h:tS n n_a0=some r):PQ G 346 [vI n_a0] (vB r):=by
 unfold tS at h
 refine pq aN Tryz.func346 rfl fun w X hC=> ?_
 refine rq hC [] [2] [] [] [] ?_
 obtain⟨x1,hx1,h⟩:=bd h
 obtain rfl:=so h
 exact rq hC [oV (bJ G hx1)] [2,3,4] [(2,vB x1)] [] [] (qr eR)
theorem d5{a}{r}(h:fH n a=some r):PQ G 312 [V.agg (aR a)] (vB r):=by
 unfold fH at h
 refine pq aN Tryz.func312 rfl fun w X hC=> ?_
 refine rq hC [.z (.b (true))] [1,2] [(1,V.tp (bK a))] [] [] (vj h (fun x_=>aZ [(2,vB x_)] [] []) (fun j1 h=> ?_) (fun x4 h=> ?_))
 ·
  refine aO h (fun c1 h=> ?_) (fun c1 h=> ?_)
  ·exact rk hC ([oN rI a.coefs]++rF 4 c1++sF 5) (fr 2 16) [(2,vB false)] [] [] (lE h)
  ·obtain⟨x2,hx2,h⟩:=bd h
   refine aO h (fun c2 h=> ?_) (fun c2 h=> ?_)
   ·exact rk hC ([oN rI a.coefs]++rT 3 c1++[oV (zC G hx2),oT c1]++rF 5 c2) (fr 2 16) [(2,vB false)] [] [] (lE h)
   ·obtain⟨x3,hx3,h⟩:=bd h
    exact rk hC ([oN rI a.coefs]++rT 3 c1++[oV (zC G hx2),oT c1]++rT 3 c2++[oV (dP G n a.coefs 347 (fun q0=>eQ n q0) (fun q0 r h=>w4 G n q0 h) hx3),oT c2,oT c2]) (fr 2 16) [(2,vB (!x3))] [] [] (lE h)
 ·obtain rfl:=so h
  exact qr eR
theorem K7(G:GS)(n:Nat)(a:Affine)(c0__a1:Int){r:Bool}(h:gA n a c0__a1=some r):PQ G 345 [V.agg (aR a),V.tp [T.int .i64 c0__a1]] (vB r):=by
 unfold gA at h
 refine pq aN Tryz.func345 rfl fun w X hC=> ?_
 refine rq hC [.z (.b (true))] [2,3] [(2,V.tp (bK a))] [] [] (vj h (fun x_=>aZ [(3,vB x_)] [] []) (fun j1 h=> ?_) (fun x4 h=> ?_))
 ·
  obtain⟨x2,hx2,h⟩:=bd h
  refine aO h (fun c1 h=> ?_) (fun c1 h=> ?_)
  ·obtain⟨x3,hx3,h⟩:=bd h
   exact dk hC bQ ([oV (d5 G hx2),oF c1,oF c1,oV (eG G hx3)]++rF 3 c1) (fr 3 10) [(3,vB (decide (c0__a1<x3)))] [] [] (lE h)
  ·exact dk hC bQ ([oV (d5 G hx2)]++rT 5 c1) (fr 3 10) [(3,vB true)] [] [] (lE h)
 ·obtain rfl:=so h
  exact qr eR
theorem qA(G:GS)(n:Nat)(s:List Affine)(fF:FuncId)(fC0:List T)(f:Affine→Option Bool)(hf: ∀(q0:Affine) r,f q0=some r→PQ G fF [V.agg (aR q0),V.tp fC0] (vB r)){r:Int}(h:f0 n s f=some r):PQ G 316 [vM aB s,V.fn fF [V.tp fC0]] (vI r):=by
 unfold f0 at h
 refine pq aN Tryz.func316 rfl fun w X hC=> ?_
 refine rq hC [] [4] [] [] [] (qs (rq hC [oN aB s] [6,7,8] [(7,vI (s.length:Int)),(8,vI 0)] [] [] (qb (kR h (fun x_=>aZ [(0,vM aB s),(1,V.fn fF [V.tp fC0]),(7,vI (s.length:Int)),(8,vI x_)] [] []) lS ?_))))
 rintro again2 x1 h
 refine rq hC [] [9] [(9,vB (decide (x1<(s.length:Int))))] [] [] (qs (aP h (fun c1 h=> ?_) (fun c1 h=> ?_)))
 ·refine qk (qs (qb (rq hC [] [5,10] [(5,vI x1)] [] [] ?_)))
  obtain⟨x3,hx3,x4,hx4,h⟩:=dS h
  refine rq hC [oR aB hx3,oV (hf x3 _ hx4)] (fr 11 6) [(16,vB x4)] [] [] (aP h (fun c2 h=> ?_) (fun c2 h=> ?_))
  ·obtain rfl:=so h
   exact rq hC [] [4,17] [(4,vI x1)] [] [] (qr eR)
  ·exact qk (rk hC [] [8,18] [(8,vI (wr (x1+1)))] [] [] (lE h))
 ·obtain rfl:=so h
  exact dB (rq hC [] [4] [(4,vI (-1))] [] [] (qr eR))
theorem hD(G:GS)(n:Nat)(s:List Affine)(fF:FuncId)(fC0:List T)(f:Affine→Option Bool)(hf: ∀(q0:Affine) r,f q0=some r→PQ G fF [V.agg (aR q0),V.tp fC0] (vB r)){r:Bool}(h:cF n s f=some r):PQ G 264 [vM aB s,V.fn fF [V.tp fC0]] (vB r):=by
 unfold cF at h
 refine pq aN Tryz.func264 rfl fun w X hC=> ?_
 refine rq hC [] [4] [] [] [] ?_
 obtain⟨x1,hx1,h⟩:=bd h
 obtain rfl:=so h
 exact rq hC [oV (qA G n s fF fC0 f hf hx1)] (fr 4 5) [(4,vB (decide ((0:Int)≤x1)))] [] [] (qr eR)
theorem rB{list}{depth}{r}(h:lF n list depth=some r):PQ G 309 [vM aB list,vI depth] (vB r):=by
 unfold lF at h
 refine pq aN Tryz.func309 rfl fun w X hC=> ?_
 refine rq hC [.z (.b (true))] [3,4] [(3,V.tp [T.int .i64 depth])] [] [] (vj h (fun x_=>aZ [(4,vB x_)] [] []) (fun j1 h=> ?_) (fun x4 h=> ?_))
 ·
  obtain⟨x2,hx2,h⟩:=bd h
  refine aO h (fun c1 h=> ?_) (fun c1 h=> ?_)
  ·exact rk hC ([oN aB list,oV (bJ G hx2)]++rF 5 c1) (fr 4 10) [(4,vB false)] [] [] (lE h)
  ·obtain⟨x3,hx3,h⟩:=bd h
   exact rk hC ([oN aB list,oV (bJ G hx2)]++rT 3 c1++[oV (hD G n list 345 [T.int .i64 depth] (fun q0=>gA n q0 depth) (fun q0 r h=>K7 G n q0 depth h) hx3),oT c1,oT c1]) (fr 4 10) [(4,vB (!x3))] [] [] (lE h)
 ·obtain rfl:=so h
  exact qr eR
theorem N4{nest}{r}(h:l6 n nest=some r):PQ G 252 [vM aD nest] (vB r):=by
 unfold l6 at h
 refine pq aN Tryz.func252 rfl fun w X hC=> ?_
 refine rq hC [] [2] [] [] [] (qs (rq hC [oN aD nest] [5,6,7] [(5,vM aD nest),(6,vI (nest.length:Int)),(7,vI 0)] [] [] (qb (kR h (fun x_=>aZ [(0,vM aD nest),(5,vM aD nest),(6,vI (nest.length:Int)),(7,vI x_)] [] []) lS ?_))))
 rintro again2 x1 h
 refine rq hC [] [8] [(8,vB (decide (x1<(nest.length:Int))))] [] [] (qs (aP h (fun c1 h=> ?_) (fun c1 h=> ?_)))
 ·refine qk (qs (qb ?_))
  obtain⟨x3,hx3,h⟩:=bd h
  refine rq hC [oR aD hx3,.z (.nat 20)] [3,4,9,10,11] [(3,vI x1),(4,V.ref 20 0)] [(20,some (E.cells (mB x3)))] [(20,true)] (vj h (fun x_=>aZ [(0,vM aD nest),(5,vM aD nest),(6,vI (nest.length:Int)),(7,vI x1),(23,vB x_)] [(20,E.cells (mB x3))] [20]) (fun j4 h=> ?_) (fun x7 h=> ?_))
  ·
   obtain⟨x5,hx5,h⟩:=bd h
   refine aO h (fun c2 h=> ?_) (fun c2 h=> ?_)
   ·obtain⟨x6,hx6,h⟩:=bd h
    exact rk hC ([oV (rB G hx5)]++rF 4 c2++[oV (rB G hx6),oF c2,oF c2]) (fr 12 12) [(23,vB (!x6))] [] [] (lE h)
   ·exact rk hC ([oV (rB G hx5)]++rT 6 c2) (fr 12 12) [(23,vB true)] [] [] (lE h)
  ·refine aP h (fun c3 h=> ?_) (fun c3 h=> ?_)
   ·obtain rfl:=so h
    exact rq hC [] [2] [(2,vB false)] [] [] (qr eR)
   ·exact qk (rk hC [] [7,24] [(7,vI (wr (x1+1)))] [] [] (lE h))
 ·obtain rfl:=so h
  exact dB (rq hC [oN aD nest] [2,25,26,27] [(2,vB (decide ((nest.length:Int)≤4)))] [] [] (qr eR))
theorem eS{a}{point}{r}(h:b6 n a point=some r):PQ G 294 [V.agg (aR a),vM rI point] (vI r):=by
 unfold b6 at h
 refine pq aN Tryz.func294 rfl fun w X hC=> ?_
 refine rq hC [.z (.b (true))] [2,4] [(2,V.tp (bK a))] [] [] (rq hC [] [5,8,9] [(5,vI a.const)] [] [] (qs (rq hC [oN rI point] [10,11,12] [(10,vM rI point),(11,vI (point.length:Int)),(12,vI 0)] [] [] (qb (kR h (fun x_=>aZ [(2,V.tp (bK a)),(5,vI x_.1),(10,vM rI point),(11,vI (point.length:Int)),(12,vI x_.2)] [] []) lS ?_)))))
 rintro again3 ⟨x1,x2⟩ h
 refine rq hC [] [13] [(13,vB (decide (x2<(point.length:Int))))] [] [] (qs (aP h (fun c1 h=> ?_) (fun c1 h=> ?_)))
 ·refine qk (qs (qb ?_))
  obtain⟨x4,hx4,h⟩:=bd h
  refine rq hC [oR rI hx4] [6,7,14,15,16] [(6,vI x2),(7,vI x4)] [] [] ?_
  obtain⟨x5,hx5,h⟩:=bd h
  exact rk hC [oR rI hx5] [5,17,18,19,20,21,22,23,24,25] [(5,vI (wr (x1+(wr (x5*x4)))))] [] [] (rk hC [] [12,26] [(12,vI (wr (x2+1)))] [] [] (lE h))
 ·obtain rfl:=so h
  exact dB (rq hC [] [4,27] [(4,vI x1)] [] [] (qr eR))
theorem N5{l}{point}{r}(h:l7 n l point=some r):PQ G 310 [V.agg (mB l),vM rI point] (V.tup [vI r.1,vI r.2]):=by
 unfold l7 at h
 refine pq aN Tryz.func310 rfl fun w X hC=> ?_
 refine rq hC [.z (.b (true))] [2,4,5] [(2,V.tp (vR l))] [] [] (qs ?_)
 obtain⟨x1,hx1,x2,hx2,x3,hx3,h⟩:=mL h
 obtain⟨x4,hx4,h⟩:=bd h
 refine dk hC bQ [oR aB hx1,oV (eS G hx2),oR aB hx3,oV (eS G hx4)] [6,7,12,13,14,15,16,17,18,19,20,21,22,23] [(6,vI x2),(7,vI x4)] [] [] (qs (rq hC [oN aB l.lo] (fr 24 4) [(25,vM aB l.lo),(26,vI (l.lo.length:Int)),(27,vI 0)] [] [] (qb (kR h (fun x_=>aZ [(1,vM rI point),(2,V.tp (vR l)),(6,vI x_.1),(7,vI x4),(25,vM aB l.lo),(26,vI (l.lo.length:Int)),(27,vI x_.2)] [] []) lS ?_))))
 rintro again7 ⟨x5,x6⟩ h
 refine rq hC [] [28] [(28,vB (decide (x6<(l.lo.length:Int))))] [] [] (qs (aP h (fun c1 h=> ?_) (fun c1 h=> ?_)))
 ·refine qk (qs (qb ?_))
  obtain⟨x8,hx8,h⟩:=bd h
  refine rq hC [oR aB hx8,.z (.nat 20)] [9,29,30] [(9,V.ref 20 0)] [(20,some (E.cells (aR x8)))] [(20,true)] ?_
  obtain⟨x9,hx9,h⟩:=bd h
  exact rk hC [oV (eS G hx9)] [6,31,32,33,34,35] [(6,vI (max x5 x9))] [] [] (rk hC [] [27,36] [(27,vI (wr (x6+1)))] [] [] (lE h))
 ·refine dB (qs (rq hC [oN aB l.hi] (fr 37 4) [(38,vM aB l.hi),(39,vI (l.hi.length:Int)),(40,vI 0)] [] [] (qb (kR h (fun x_=>aZ [(1,vM rI point),(6,vI x5),(7,vI x_.1),(38,vM aB l.hi),(39,vI (l.hi.length:Int)),(40,vI x_.2)] [] []) lS ?_))))
  rintro again12 ⟨x10,x11⟩ h
  refine rq hC [] [41] [(41,vB (decide (x11<(l.hi.length:Int))))] [] [] (qs (aP h (fun c2 h=> ?_) (fun c2 h=> ?_)))
  ·refine qk (qs (qb ?_))
   obtain⟨x13,hx13,h⟩:=bd h
   refine rq hC [oR aB hx13,.z (.nat 20)] [11,42,43] [(11,V.ref 20 0)] [(20,some (E.cells (aR x13)))] [(20,true)] ?_
   obtain⟨x14,hx14,h⟩:=bd h
   exact rk hC [oV (eS G hx14)] [7,44,45,46,47,48] [(7,vI (min x10 x14))] [] [] (rk hC [] [40,49] [(40,vI (wr (x11+1)))] [] [] (lE h))
  ·obtain rfl:=so h
   exact dB (rq hC [] [4,5,50,51] [(4,vI x5),(5,vI x10)] [] [] (qr eR))
theorem yK(G:GS): ∀(n:Nat) (w_a0:Walking) (w_a0G2:Nat) (point:List Int) {r:Bool×Walking} (h:i_walking_walk n w_a0 point=some r),VQ G 253 [E.cells [vM aD w_a0.nest,vI w_a0.steps,ms 1 w_a0G2 1 (rL rI) w_a0.out],ar 48 w_a0G2 1 (rL rI) w_a0.out] [V.ref 0 0,vM rI point] (vB r.1) [E.cells [vM aD r.2.nest,vI r.2.steps,ms 1 (w_a0G2+1) 1 (rL rI) r.2.out],ar 48 (w_a0G2+1) 1 (rL rI) r.2.out]:=by
 intro n
 induction n with
 |zero=>intro w_a0 w_a0G2 point r h;rw [i_walking_walk.eq_def] at h;cases h
 |succ n ih=>
  intro w_a0 w_a0G2 point r h
  rw [i_walking_walk.eq_def] at h;dsimp only at h
  refine vq aN Tryz.func253 rfl fun w X β0 hC hg=> ?_
  refine rq hC [] [4] [] [] [] (qs (rq hC [oN rI point,oN aD w_a0.nest] (fr 8 8) [(15,vB (decide ((point.length:Int)=(w_a0.nest.length:Int))))] [] [] (aP h (fun c1 h=> ?_) (fun c1 h=> ?_))))
  ·refine qs ?_
   obtain⟨x1,hx1,x2,hx2,h⟩:=dS h
   obtain rfl:=so h
   exact dk hC bQ [oC [] [20] (G.clone point hx1),.z (.at 5),.z (.fz 20 [22] []),.z (.int 0),oA (aQ (rL rI) hx2),oQ (cE (r:=(rL rI)) 1 (fun _=>rfl) w_a0.out),oQ (cE (r:=(rL rI)) 1 (fun _=>rfl) [x1])] (fr 16 11) [] [(20,none),(1,some (ar 48 (w_a0G2+1) 1 (rL rI) x2)),(0,sc [vM aD w_a0.nest,vI w_a0.steps,ms 1 (w_a0G2+1) 1 (rL rI) x2])] [(20,true)] (rq hC [oN (rL rI) x2] [4,27,28,29,30,31,32] [(4,vB (decide ((x2.length:Int)≤120)))] [] [] (qw (dR 0 2 1 w_a0G2 (w_a0G2+1) 1 0 (List.map (rL rI) x2).length (e:= .arr 48 (w_a0G2+1) 1 (List.map (rL rI) x2)) (cs:=[vM aD w_a0.nest,vI w_a0.steps,ms 1 (w_a0G2+1) 1 (rL rI) x2]) rfl (by kernel_rfl) (by kernel_rfl) (by kernel_rfl) (by kernel_rfl) rfl rfl hg.2.1) (qr eW)))
  ·refine qk ?_
   obtain⟨x3,hx3,x4,hx4,h⟩:=dS h
   refine rq hC [oN rI point,oR aD hx3,oV (N5 G hx4)] [5,6,33,34,35,36,37,38,39,40,41,42,43,44,45] [(5,vI x4.1),(6,vI x4.2)] [] [] (qs (rq hC [] [7,46] [(7,vI x4.1)] [] [] (qb (bF (γ:=Nat) h (fun x_ g_=>aZ [(0,V.ref 0 0),(1,vM rI point),(6,vI x4.2),(7,vI x_.2.2.2)] [(0,E.cells [vM aD x_.1,vI x_.2.1,ms 1 g_ 1 (rL rI) x_.2.2.1]),(1,ar 48 g_ 1 (rL rI) x_.2.2.1)] [0,1]) w_a0G2 (lS) ?_))))
   rintro again10 ⟨x5,x6,x7,x8⟩ g9 h
   refine qs (rq hC [] [47,48,49] [(49,vB (decide (x8<x4.2)))] [] [] (aP h (fun c2 h=> ?_) (fun c2 h=> ?_)))
   ·refine qk (qs (qb (rq hC [] (fr 52 7) [] [(0,sc [vM aD x5,vI (wr (x6+1)),ms 1 g9 1 (rL rI) x7])] [] ?_)))
    obtain⟨j11,hj11,h⟩:=M2 h
    refine nD (γ:=Nat) (j:=j11) (r:=r) (fun x_ g_=>aZ [(0,V.ref 0 0),(1,vM rI point),(6,vI x4.2),(7,vI x8),(74,vB x_.2.2.2)] [(0,E.cells [vM aD x_.1,vI x_.2.1,ms 1 g_ 1 (rL rI) x_.2.2.1]),(1,ar 48 g_ 1 (rL rI) x_.2.2.1)] [0,1]) ?_ ?_
    ·
     refine aO h (fun c3 h=> ?_) (fun c3 h=> ?_)
     ·obtain⟨x12,hx12,x13,hx13,x14,hx14,h⟩:=mL h
      exact rk hC (rF 3 c3++[oC [] [20] (G.clone point hx12),oF c3,oF c3,.z (.int 0),oF c3,oA (aQ rI hx13),.z (.at 3),.z (.fz 20 [71] []),oQ (cE (r:=rI) 1 (fun _=>rfl) x12),oQ (cE (r:=rI) 1 (fun _=>rfl) [x8]),oF c3,oC [0,1] [] (ih (⟨x5,wr (x6+1),x7⟩:Walking) g9 x13 hx14),oF c3,oF c3]) (fr 59 16) [(74,vB (!x14.1))] [(20,none),(1,some (ar 48 (g9+1) 1 (rL rI) x14.2.out)),(0,sc [vM aD x14.2.nest,vI x14.2.steps,ms 1 (g9+1) 1 (rL rI) x14.2.out])] [(20,true),(0,true),(1,true)] ⟨(x14.2.nest,x14.2.steps,x14.2.out, !x14.1),(g9+1),h,lS⟩
     ·exact rk hC (rT 9 c3) (fr 59 16) [(74,vB true)] [] [] ⟨(x5,wr (x6+1),x7,true),g9,h,lS⟩
    ·rintro⟨x15,x16,x17,x18⟩ g19 h
     subst hj11
     refine aP h (fun c4 h=> ?_) (fun c4 h=> ?_)
     ·obtain rfl:=so h
      exact rq hC [] [4] [(4,vB false)] [] [] (qw (dR 0 2 1 w_a0G2 g19 1 0 (List.map (rL rI) x17).length (e:= .arr 48 g19 1 (List.map (rL rI) x17)) (cs:=[vM aD x15,vI x16,ms 1 g19 1 (rL rI) x17]) rfl (by kernel_rfl) (by kernel_rfl) (by kernel_rfl) (by kernel_rfl) rfl rfl hg.2.1) (qr eW))
     ·exact qk (rk hC [] [7,50,51] [(7,vI (wr (x8+1)))] [] [] ⟨(x15,x16,x17,wr (x8+1)),g19,h,lS⟩)
   ·obtain rfl:=so h
    exact dB (rq hC [] [4] [(4,vB true)] [] [] (qw (dR 0 2 1 w_a0G2 g9 1 0 (List.map (rL rI) x7).length (e:= .arr 48 g9 1 (List.map (rL rI) x7)) (cs:=[vM aD x5,vI x6,ms 1 g9 1 (rL rI) x7]) rfl (by kernel_rfl) (by kernel_rfl) (by kernel_rfl) (by kernel_rfl) rfl rfl hg.2.1) (qr eW)))
theorem L1{nest}{r}(h:kI n nest=some r):VQ G 175 [] [vM aD nest] (V.tup [ms 0 1 1 (rL rI) r.1,vB r.2]) [ar 48 1 1 (rL rI) r.1]:=by
 unfold kI at h
 refine vq aN Tryz.func175 rfl fun w X β0 hC hg=> ?_
 refine rq hC [] [2,3] [] [] [] (qs ?_)
 obtain⟨x1,hx1,h⟩:=bd h
 refine rq hC [oV (N4 G hx1)] [5,6,7] [(7,vB (!x1))] [] [] (aP h (fun c1 h=> ?_) (fun c1 h=> ?_))
 ·obtain rfl:=so h
  exact rq hC [] [2,3] [(2,V.t T.nilS),(3,vB false)] [] [] (qw (lk hC [.grow 2 0 48] [2] [(2,ms 0 1 1 (rL rI) [])] [(0,some (ar 48 1 1 (rL rI) []))] [(0,true)]) (qr eW))
 ·refine qk (rq hC [.z (.nat 20)] [4,8,9,10] [(4,V.ref 20 0)] [(20,sc [vM aD nest,vI 0,V.t T.nilS])] [(20,true)] (qs ?_))
  obtain⟨x2,hx2,h⟩:=bd h
  refine rq hC [.z (.at 2),.z (.growc 20 2 21 48),oC [20,21] [] (yK G n (⟨nest,0,[]⟩:Walking) 1 [] hx2)] [11,12,13] [(13,vB (!x2.1))] [(21,some (ar 48 2 1 (rL rI) x2.2.out)),(20,sc [vM aD x2.2.nest,vI x2.2.steps,ms 21 2 1 (rL rI) x2.2.out])] [(21,true),(20,true),(21,true)] (aP h (fun c2 h=> ?_) (fun c2 h=> ?_))
  ·obtain rfl:=so h
   exact rq hC [] [2,3] [(2,V.t T.nilS),(3,vB false)] [] [] (qw (lk hC [.grow 2 0 48] [2] [(2,ms 0 1 1 (rL rI) [])] [(0,some (ar 48 1 1 (rL rI) []))] [(0,true)]) (qr eW))
  ·obtain rfl:=so h
   exact qk (rq hC [] [2,3,14,15,16,17] [(2,ms 21 2 1 (rL rI) x2.2.out),(3,vB true)] [] [] (qw (lk hC [.ren 2 21 0] [2] [(2,ms 0 1 1 (rL rI) x2.2.out)] [(0,some (ar 48 1 1 (rL rI) x2.2.out)),(21,none)] [(0,true)]) (qr eW)))
theorem iK{a}{r}(h:lD n a=some r):PQ G 313 [V.agg (aR a)] (vB r):=by
 unfold lD at h
 refine pq aN Tryz.func313 rfl fun w X hC=> ?_
 refine rq hC [.z (.b (true))] [1,2] [(1,V.tp (bK a))] [] [] (vj h (fun x_=>aZ [(2,vB x_)] [] []) (fun j1 h=> ?_) (fun x2 h=> ?_))
 ·
  refine aO h (fun c1 h=> ?_) (fun c1 h=> ?_)
  ·exact rk hC ([oN rI a.coefs]++rF 4 c1) (fr 2 10) [(2,vB false)] [] [] (lE h)
  ·exact rk hC ([oN rI a.coefs]++rT 4 c1) (fr 2 10) [(2,vB (decide (a.const=0)))] [] [] (lE h)
 ·obtain rfl:=so h
  exact qr eR
theorem mV{a}{r}(h:gX n a=some r):PQ G 314 [V.agg (cW a)] (vB r):=by
 unfold gX at h
 refine pq aN Tryz.func314 rfl fun w X hC=> ?_
 refine rq hC [.z (.b (true))] [1,2] [(1,V.tp (d7 a))] [] [] (vj h (fun x_=>aZ [(2,vB x_)] [] []) (fun j1 h=> ?_) (fun x2 h=> ?_))
 ·
  refine aO h (fun c1 h=> ?_) (fun c1 h=> ?_)
  ·exact rk hC (rF 5 c1) (fr 2 10) [(2,vB false)] [] [] (lE h)
  ·exact rk hC (rT 3 c1++[oN aB a.subs,oT c1,oT c1]) (fr 2 10) [(2,vB (decide ((a.subs.length:Int)=0)))] [] [] (lE h)
 ·obtain rfl:=so h
  exact qr eR
theorem K8(G:GS)(n:Nat)(s:Affine)(c0__a1:Int){r:Bool}(h:iI n s c0__a1=some r):PQ G 311 [V.agg (aR s),V.tp [T.int .i64 c0__a1]] (vB r):=by
 unfold iI at h
 refine pq aN Tryz.func311 rfl fun w X hC=> ?_
 refine rq hC [.z (.b (true))] [2,3] [(2,V.tp (bK s))] [] [] (vj h (fun x_=>aZ [(3,vB x_)] [] []) (fun j1 h=> ?_) (fun x4 h=> ?_))
 ·
  obtain⟨x2,hx2,h⟩:=bd h
  refine aO h (fun c1 h=> ?_) (fun c1 h=> ?_)
  ·obtain⟨x3,hx3,h⟩:=bd h
   exact dk hC bQ ([oV (d5 G hx2),oF c1,oF c1,oV (eG G hx3)]++rF 3 c1) (fr 3 10) [(3,vB (decide (c0__a1<x3)))] [] [] (lE h)
  ·exact dk hC bQ ([oV (d5 G hx2)]++rT 5 c1) (fr 3 10) [(3,vB true)] [] [] (lE h)
 ·obtain rfl:=so h
  exact qr eR
theorem mW{a}{depth}{r}(h:lG n a depth=some r):PQ G 255 [V.agg (cW a),vI depth] (vB r):=by
 unfold lG at h
 refine pq aN Tryz.func255 rfl fun w X hC=> ?_
 refine rq hC [.z (.b (true)),.z (.b (true))] [2,3,4] [(2,V.tp (d7 a)),(3,V.tp [T.int .i64 depth])] [] [] (vj h (fun x_=>aZ [(4,vB x_)] [] []) (fun j1 h=> ?_) (fun x5 h=> ?_))
 ·
  obtain⟨x2,hx2,h⟩:=bd h
  refine aO h (fun c1 h=> ?_) (fun c1 h=> ?_)
  ·exact rk hC ([oV (fE G hx2)]++rF 5 c1++sF 6) (fr 4 17) [(4,vB false)] [] [] (lE h)
  ·obtain⟨x3,hx3,h⟩:=bd h
   refine aO h (fun c2 h=> ?_) (fun c2 h=> ?_)
   ·exact rk hC ([oV (fE G hx2)]++rT 3 c1++[oN aB a.subs,oT c1,oV (bJ G hx3),oT c1]++rF 6 c2) (fr 4 17) [(4,vB false)] [] [] (lE h)
   ·obtain⟨x4,hx4,h⟩:=bd h
    exact rk hC ([oV (fE G hx2)]++rT 3 c1++[oN aB a.subs,oT c1,oV (bJ G hx3),oT c1]++rT 4 c2++[oV (hD G n a.subs 311 [T.int .i64 depth] (fun q0=>iI n q0 depth) (fun q0 r h=>K8 G n q0 depth h) hx4),oT c2,oT c2]) (fr 4 17) [(4,vB (!x4))] [] [] (lE h)
 ·obtain rfl:=so h
  exact qr eR
theorem Y2(G:GS): ∀(n:Nat) (e:Expr) (depth:Int) (deep:Int) (count:Int) {r:Bool×Int} (h:i_exprScan n e depth deep count=some r),VQ G 256 [E.cells [vI count]] [V.agg (aT e),vI depth,vI deep,V.ref 0 0] (vB r.1) [E.cells [vI r.2]]:=by
 intro n
 induction n with
 |zero=>intro e depth deep count r h;rw [i_exprScan.eq_def] at h;cases h
 |succ n ih=>
  intro e depth deep count r h
  rw [i_exprScan.eq_def] at h;dsimp only at h
  refine vq aN Tryz.func256 rfl fun w X β0 hC hg=> ?_
  refine rq hC [.z (.b (true))] [4,8] [(4,V.tp (cI e))] [] [] (rq hC [] (fr 9 5) [] [(0,sc [vI (wr (count+1))])] [] (qs (vj h (fun x_=>aZ [(1,vI depth),(2,vI deep),(3,V.ref 0 0),(4,V.tp (cI e)),(21,vB x_)] [(0,E.cells [vI (wr (count+1))])] [0]) (fun j1 h=> ?_) (fun x2 h=> ?_))))
  ·
   refine aO h (fun c1 h=> ?_) (fun c1 h=> ?_)
   ·exact rk hC (rF 3 c1) (fr 14 8) [(21,vB (decide ((5:Int)<deep)))] [] [] (lE h)
   ·exact rk hC (rT 3 c1) (fr 14 8) [(21,vB true)] [] [] (lE h)
  ·refine aP h (fun c2 h=> ?_) (fun c2 h=> ?_)
   ·obtain rfl:=so h
    exact rq hC [] [8] [(8,vB false)] [] [] (qr eW)
   ·refine qk (qs (vj h (fun x_=>aZ [(1,vI depth),(2,vI deep),(3,V.ref 0 0),(4,V.tp (cI e)),(51,vB x_)] [(0,E.cells [vI (wr (count+1))])] [0]) (fun j3 h=> ?_) (fun x10 h=> ?_)))
    ·
     refine aO h (fun c3 h=> ?_) (fun c3 h=> ?_)
     ·refine aO h (fun c4 h=> ?_) (fun c4 h=> ?_)
      ·refine aO h (fun c5 h=> ?_) (fun c5 h=> ?_)
       ·exact rk hC (rF 4 c3++sF 4++rF 4 c4++[eF,oF c4]++sF 5++rF 4 c5++[eF,oF c5,eF]) (fr 22 30) [(51,vB false)] [] [] (lE h)
       ·obtain⟨x4,hx4,h⟩:=bd h
        exact rk hC (rF 4 c3++sF 4++rF 4 c4++[eF,oF c4]++sF 5++rT 3 c5++[oV (mV G hx4),oT c5,eF,oT c5,eF]) (fr 22 30) [(51,vB (!x4))] [] [] (lE h)
      ·obtain⟨x5,hx5,h⟩:=bd h
       refine aO h (fun c6 h=> ?_) (fun c6 h=> ?_)
       ·refine aO h (fun c7 h=> ?_) (fun c7 h=> ?_)
        ·exact rk hC (rF 4 c3++sF 4++rT 3 c4++[oV (iK G hx5),oT c4,eF,oT c4,eF]++rF 4 c6++rF 4 c7++[oF c6,oF c7,oF c6]) (fr 22 30) [(51,vB false)] [] [] (lE h)
        ·obtain⟨x6,hx6,h⟩:=bd h
         exact rk hC (rF 4 c3++sF 4++rT 3 c4++[oV (iK G hx5),oT c4,eF,oT c4,eF]++rF 4 c6++rT 3 c7++[oV (mV G hx6),oT c7,oF c6,oT c7,oF c6]) (fr 22 30) [(51,vB (!x6))] [] [] (lE h)
       ·exact rk hC (rF 4 c3++sF 4++rT 3 c4++[oV (iK G hx5),oT c4,eF,oT c4,eF]++rT 6 c6) (fr 22 30) [(51,vB true)] [] [] (lE h)
     ·refine aO h (fun c8 h=> ?_) (fun c8 h=> ?_)
      ·refine aO h (fun c9 h=> ?_) (fun c9 h=> ?_)
       ·refine aO h (fun c10 h=> ?_) (fun c10 h=> ?_)
        ·exact rk hC (rT 4 c3++rF 4 c8++rF 4 c9++[oF c8,oF c9,oF c8]++sF 4++rF 4 c10++[eF,oF c10,eF]) (fr 22 30) [(51,vB false)] [] [] (lE h)
        ·obtain⟨x7,hx7,h⟩:=bd h
         exact rk hC (rT 4 c3++rF 4 c8++rF 4 c9++[oF c8,oF c9,oF c8]++sF 4++rT 3 c10++[oV (mV G hx7),oT c10,eF,oT c10,eF]) (fr 22 30) [(51,vB (!x7))] [] [] (lE h)
       ·obtain⟨x8,hx8,h⟩:=bd h
        refine aO h (fun c11 h=> ?_) (fun c11 h=> ?_)
        ·refine aO h (fun c12 h=> ?_) (fun c12 h=> ?_)
         ·exact rk hC (rT 4 c3++rF 4 c8++rT 3 c9++[oV (iK G hx8),oT c9,oF c8,oT c9,oF c8]++rF 4 c11++rF 4 c12++[oF c11,oF c12,oF c11]) (fr 22 30) [(51,vB false)] [] [] (lE h)
         ·obtain⟨x9,hx9,h⟩:=bd h
          exact rk hC (rT 4 c3++rF 4 c8++rT 3 c9++[oV (iK G hx8),oT c9,oF c8,oT c9,oF c8]++rF 4 c11++rT 3 c12++[oV (mV G hx9),oT c12,oF c11,oT c12,oF c11]) (fr 22 30) [(51,vB (!x9))] [] [] (lE h)
        ·exact rk hC (rT 4 c3++rF 4 c8++rT 3 c9++[oV (iK G hx8),oT c9,oF c8,oT c9,oF c8]++rT 6 c11) (fr 22 30) [(51,vB true)] [] [] (lE h)
      ·exact rk hC (rT 4 c3++rT 6 c8++sT 6) (fr 22 30) [(51,vB true)] [] [] (lE h)
    ·refine aP h (fun c13 h=> ?_) (fun c13 h=> ?_)
     ·obtain rfl:=so h
      exact rq hC [] [8] [(8,vB false)] [] [] (qr eW)
     ·refine qk (qs (qb (rq hC [] (fr 52 4) [(52,vB (decide (e.kind=1)))] [] [] (aP h (fun c14 h=> ?_) (fun c14 h=> ?_)))))
      ·refine vj h (fun x_=>aZ [(8,vB x_)] [(0,E.cells [vI (wr (count+1))])] [0]) (fun j11 h=> ?_) (fun x13 h=> ?_)
       ·
        obtain⟨x12,hx12,h⟩:=bd h
        refine aO h (fun c15 h=> ?_) (fun c15 h=> ?_)
        ·exact rk hC ([oV (bJ G hx12)]++rF 5 c15) [8,56,57,58,59,60,61,62,63,64] [(8,vB false)] [] [] (lE h)
        ·exact rk hC ([oV (bJ G hx12)]++rT 3 c15++[oN aH e.kids,oT c15,oT c15]) [8,56,57,58,59,60,61,62,63,64] [(8,vB (decide ((e.kids.length:Int)=0)))] [] [] (lE h)
       ·obtain rfl:=so h
        exact qr eW
      ·refine rq hC [] (fr 65 4) [(65,vB (decide (e.kind=2)))] [] [] (aP h (fun c16 h=> ?_) (fun c16 h=> ?_))
       ·refine vj h (fun x_=>aZ [(8,vB x_)] [(0,E.cells [vI (wr (count+1))])] [0]) (fun j14 h=> ?_) (fun x17 h=> ?_)
        ·
         obtain⟨x15,hx15,h⟩:=bd h
         refine aO h (fun c17 h=> ?_) (fun c17 h=> ?_)
         ·exact rk hC ([oV (d5 G hx15)]++rF 6 c17++sF 5) [8,69,70,71,72,73,74,75,76,77,78,79,80,81,82,83,84] [(8,vB false)] [] [] (lE h)
         ·obtain⟨x16,hx16,h⟩:=bd h
          refine aO h (fun c18 h=> ?_) (fun c18 h=> ?_)
          ·exact rk hC ([oV (d5 G hx15)]++rT 3 c17++[oV (eG G hx16)]++rT 3 c17++rF 5 c18) [8,69,70,71,72,73,74,75,76,77,78,79,80,81,82,83,84] [(8,vB false)] [] [] (lE h)
          ·exact rk hC ([oV (d5 G hx15)]++rT 3 c17++[oV (eG G hx16)]++rT 3 c17++rT 3 c18++[oN aH e.kids,oT c18,oT c18]) [8,69,70,71,72,73,74,75,76,77,78,79,80,81,82,83,84] [(8,vB (decide ((e.kids.length:Int)=0)))] [] [] (lE h)
        ·obtain rfl:=so h
         exact qr eW
       ·refine rq hC [] (fr 85 4) [(85,vB (decide (e.kind=3)))] [] [] (aP h (fun c19 h=> ?_) (fun c19 h=> ?_))
        ·refine vj h (fun x_=>aZ [(8,vB x_)] [(0,E.cells [vI (wr (count+1))])] [0]) (fun j18 h=> ?_) (fun x20 h=> ?_)
         ·
          obtain⟨x19,hx19,h⟩:=bd h
          refine aO h (fun c20 h=> ?_) (fun c20 h=> ?_)
          ·exact rk hC ([oV (mW G hx19)]++rF 5 c20) [8,89,90,91,92,93,94,95,96,97,98] [(8,vB false)] [] [] (lE h)
          ·exact rk hC ([oV (mW G hx19)]++rT 3 c20++[oN aH e.kids,oT c20,oT c20]) [8,89,90,91,92,93,94,95,96,97,98] [(8,vB (decide ((e.kids.length:Int)=0)))] [] [] (lE h)
         ·obtain rfl:=so h
          exact qr eW
        ·refine vj h (fun x_=>aZ [(1,vI depth),(2,vI deep),(3,V.ref 0 0),(4,V.tp (cI e)),(99,vB x_)] [(0,E.cells [vI (wr (count+1))])] [0]) (fun j21 h=> ?_) (fun x23 h=> ?_)
         ·
          obtain⟨x22,hx22,h⟩:=bd h
          refine aO h (fun c21 h=> ?_) (fun c21 h=> ?_)
          ·exact rk hC ([oV (K6 G hx22)]++rF 3 c21++[oN aH e.kids,oF c21,oF c21]) (fr 99 11) [(99,vB (!decide ((e.kids.length:Int)=2)))] [] [] (lE h)
          ·exact rk hC ([oV (K6 G hx22)]++rT 5 c21) (fr 99 11) [(99,vB true)] [] [] (lE h)
         ·refine aP h (fun c22 h=> ?_) (fun c22 h=> ?_)
          ·obtain rfl:=so h
           exact rq hC [] [8] [(8,vB false)] [] [] (qr eW)
          ·refine qk (vj h (fun x_=>aZ [(8,vB x_.2)] [(0,E.cells [vI x_.1])] [0]) (fun j24 h=> ?_) ?_)
           ·
            obtain⟨x25,hx25,x26,hx26,h⟩:=dS h
            refine aO h (fun c23 h=> ?_) (fun c23 h=> ?_)
            ·exact rk hC ([.z (.row (cY x25)),oQ (dG aH hx25 (bW x25)),oC [0] [] (ih x25 depth (wr (deep+1)) (wr (count+1)) hx26)]++rF 10 c23) [8,110,111,112,113,114,115,116,117,118,119,120,121,122,123,124,125,126,127,128,129] [(8,vB false)] [(0,sc [vI x26.2])] [(0,true)] (lE h)
            ·obtain⟨x27,hx27,x28,hx28,h⟩:=dS h
             exact rk hC ([.z (.row (cY x25)),oQ (dG aH hx25 (bW x25)),oC [0] [] (ih x25 depth (wr (deep+1)) (wr (count+1)) hx26)]++rT 3 c23++[.z (.row (cY x27)),oQ (dG aH hx27 (bW x27))]++rT 6 c23++[oC [0] [] (ih x27 depth (wr (deep+1)) x26.2 hx28),oT c23]) [8,110,111,112,113,114,115,116,117,118,119,120,121,122,123,124,125,126,127,128,129] [(8,vB x28.1)] [(0,sc [vI x28.2])] [(0,true),(0,true)] (lE h)
           ·rintro⟨x29,x30⟩ h
            obtain rfl:=so h
            exact qr eW
theorem N3{s}{depth}{r}(h:l5 n s depth=some r):PQ G 178 [V.agg (cD s),vI depth] (vB r):=by
 unfold l5 at h
 refine pq aN Tryz.func178 rfl fun w X hC=> ?_
 refine rq hC [.z (.b (true))] [2,4] [(2,V.tp (mI s))] [] [] (rq hC [.z (.nat 20)] [5] [(5,V.ref 20 0)] [(20,sc [vI 0])] [(20,true)] (vj h (fun x_=>aZ [(4,vB x_.2)] [(20,E.cells [vI x_.1])] [20]) (fun j1 h=> ?_) ?_))
 ·
  obtain⟨x2,hx2,h⟩:=bd h
  refine aO h (fun c1 h=> ?_) (fun c1 h=> ?_)
  ·exact rk hC ([oV (bJ G hx2)]++rF 5 c1++sF 5) [4,6,7,8,9,10,11,12,13,14,15,16,17,18,19] [(4,vB false)] [] [] (lE h)
  ·obtain⟨x3,hx3,h⟩:=bd h
   refine aO h (fun c2 h=> ?_) (fun c2 h=> ?_)
   ·exact rk hC ([oV (bJ G hx2)]++rT 4 c1++[oV (mW G hx3),oT c1]++rF 5 c2) [4,6,7,8,9,10,11,12,13,14,15,16,17,18,19] [(4,vB false)] [] [] (lE h)
   ·obtain⟨x4,hx4,h⟩:=bd h
    exact rk hC ([oV (bJ G hx2)]++rT 4 c1++[oV (mW G hx3),oT c1]++rT 4 c2++[oC [20] [] (Y2 G n s.value depth 1 0 hx4),oT c2]) [4,6,7,8,9,10,11,12,13,14,15,16,17,18,19] [(4,vB x4.1)] [(20,sc [vI x4.2])] [(20,true)] (lE h)
 ·rintro⟨x5,x6⟩ h
  obtain rfl:=so h
  exact qr eR
theorem qC(G:GS)(n:Nat)(s:Stmt)(c0__a1:Part){r:Bool}(h:cG n s c0__a1=some r):PQ G 177 [V.agg (cD s),V.tp (oJ c0__a1)] (vB r):=by
 unfold cG at h
 refine pq aN Tryz.func177 rfl fun w X hC=> ?_
 refine rq hC [.z (.b (true))] [2,3] [(2,V.tp (mI s))] [] [] ?_
 obtain⟨x1,hx1,h⟩:=bd h
 obtain rfl:=so h
 exact rq hC [oN aD c0__a1.nest,oV (N3 G hx1)] (fr 3 7) [(3,vB (!x1))] [] [] (qr eR)
theorem N2(G:GS)(n:Nat)(n_a0:Int){r:Bool}(h:jM n n_a0=some r):PQ G 257 [vI n_a0] (vB r):=by
 unfold jM at h
 refine pq aN Tryz.func257 rfl fun w X hC=> ?_
 refine rq hC [] [2] [] [] [] ?_
 obtain⟨x1,hx1,h⟩:=bd h
 obtain rfl:=so h
 exact rq hC [oV (bJ G hx1)] (fr 2 4) [(2,vB (!x1))] [] [] (qr eR)
theorem aBk{point}{r}(h:pT n point=some r):PQ G 179 [vM rI point] (vB r):=by
 unfold pT at h
 refine pq aN Tryz.func179 rfl fun w X hC=> ?_
 refine rq hC [] [2] [] [] [] (vj h (fun x_=>aZ [(2,vB x_)] [] []) (fun j1 h=> ?_) (fun x3 h=> ?_))
 ·
  refine aO h (fun c1 h=> ?_) (fun c1 h=> ?_)
  ·exact rk hC ([oN rI point]++rF 4 c1) (fr 2 9) [(2,vB false)] [] [] (lE h)
  ·obtain⟨x2,hx2,h⟩:=bd h
   exact rk hC [oN rI point,oT c1,oT c1,oV (dP G n point 257 (fun q0=>jM n q0) (fun q0 r h=>N2 G n q0 h) hx2),oT c1,oT c1] (fr 2 9) [(2,vB (!x2))] [] [] (lE h)
 ·obtain rfl:=so h
  exact qr eR
theorem aD8(G:GS): ∀(n:Nat) (e:Expr) {r:(List Access)} (h:i_reads n e=some r),VQ G 259 [] [V.agg (aT e)] (ms 0 1 2 bA r) [ar 77 1 2 bA r]:=by
 intro n
 induction n with
 |zero=>intro e r h;rw [i_reads.eq_def] at h;cases h
 |succ n ih=>
  intro e r h
  rw [i_reads.eq_def] at h;dsimp only at h
  refine vq aN Tryz.func259 rfl fun w X β0 hC hg=> ?_
  refine rq hC [.z (.b (true))] [1,2] [(1,V.tp (cI e))] [] [] (qs (rq hC [] [6,7,8] [(8,vB (decide (e.kind=3)))] [] [] (aP h (fun c1 h=> ?_) (fun c1 h=> ?_))))
  ·obtain rfl:=so h
   exact rq hC [.z (.int 1),.z (.nat 20)] [2,9,10,11] [(2,ms 20 1 2 bA [e.read])] [(20,some (ar 77 1 2 bA [e.read]))] [(20,true)] (qw (lk hC [.ren 2 20 0] [2] [(2,ms 0 1 2 bA [e.read])] [(0,some (ar 77 1 2 bA [e.read])),(20,none)] [(0,true)]) (qr eW))
  ·refine qk (rq hC [] [3] [(3,V.t T.nilS)] [] [] (qs (rq hC [oN aH e.kids] (fr 12 4) [(13,vM aH e.kids),(14,vI (e.kids.length:Int)),(15,vI 0)] [] [] (qb (qw (lk hC [.grow 3 20 77] [3] [(3,ms 20 1 2 bA [])] [(20,some (ar 77 1 2 bA []))] [(20,true)]) ?_)))))
   refine bF (γ:=Nat) h (fun x_ g_=>aZ [(3,ms 20 g_ 2 bA x_.1),(13,vM aH e.kids),(14,vI (e.kids.length:Int)),(15,vI x_.2)] [(20,ar 77 g_ 2 bA x_.1)] [20]) 1 (lS) ?_
   rintro again4 ⟨x1,x2⟩ g3 h
   refine rq hC [] [16] [(16,vB (decide (x2<(e.kids.length:Int))))] [] [] (qs (aP h (fun c2 h=> ?_) (fun c2 h=> ?_)))
   ·refine qk (qs (qb ?_))
    obtain⟨x5,hx5,h⟩:=bd h
    refine rq hC [.z (.row (cY x5)),.z (.nat 21),oQ (dG aH hx5 (bW x5))] [5,17,18] [(5,V.ref 21 0)] [(21,some (E.cells (aT x5)))] [(21,true)] ?_
    obtain⟨x6,hx6,x7,hx7,h⟩:=dS h
    exact rk hC [oC [] [22] (ih x5 hx6),.z (.at 2),.z (.fz 22 [21] []),oA (aQ bA hx7),oQ (cE (r:=bA) 2 oK x1),oQ (cE (r:=bA) 2 oK x6)] [3,19,20,21,22] [(3,ms 20 (g3+1) 2 bA x7)] [(22,none),(20,some (ar 77 (g3+1) 2 bA x7))] [(22,true)] (rk hC [] [15,23] [(15,vI (wr (x2+1)))] [] [] ⟨(x7,wr (x2+1)),(g3+1),h,lS⟩)
   ·obtain rfl:=so h
    exact dB (rq hC [] [2,24] [(2,ms 20 g3 2 bA x1)] [] [] (qw (lk hC [.ren 2 20 0] [2] [(2,ms 0 1 2 bA x1)] [(0,some (ar 77 1 2 bA x1)),(20,none)] [(0,true)]) (qr eW)))
theorem s9{a}{r}(h:kK n a=some r):PQ G 261 [V.agg [vS a.name,vM rI a.dims]] (vI r):=by
 unfold kK at h
 refine pq aN Tryz.func261 rfl fun w X hC=> ?_
 refine rq hC [.z (.b (true))] [1,2] [(1,V.tp [T.str a.name,T.sl (List.map rI a.dims)])] [] [] (rq hC [] [3] [(3,vI 1)] [] [] (qs (rq hC [oN rI a.dims] (fr 6 4) [(7,vM rI a.dims),(8,vI (a.dims.length:Int)),(9,vI 0)] [] [] (qb (kR h (fun x_=>aZ [(3,vI x_.1),(7,vM rI a.dims),(8,vI (a.dims.length:Int)),(9,vI x_.2)] [] []) lS ?_)))))
 rintro again3 ⟨x1,x2⟩ h
 refine rq hC [] [10] [(10,vB (decide (x2<(a.dims.length:Int))))] [] [] (qs (aP h (fun c1 h=> ?_) (fun c1 h=> ?_)))
 ·refine qk (qs (qb ?_))
  obtain⟨x4,hx4,h⟩:=bd h
  exact rq hC [oR rI hx4] [5,11,12] [(5,vI x4)] [] [] (rk hC [] [3,13,14,15] [(3,vI (wr (x1*x4)))] [] [] (rk hC [] [9,16] [(9,vI (wr (x2+1)))] [] [] (lE h)))
 ·obtain rfl:=so h
  exact dB (rq hC [] [2,17] [(2,vI x1)] [] [] (qr eR))
theorem fV{p}{a}{point}{r}(h:dM n p a point=some r):PQ G 230 [V.agg (bM p),V.agg (cW a),vM rI point] (vI r):=by
 unfold dM at h
 refine pq aN Tryz.func230 rfl fun w X hC=> ?_
 refine rq hC [.z (.b (true)),.z (.b (true))] [3,4,6] [(3,V.tp (cH p)),(4,V.tp (d7 a))] [] [] (rq hC [] [7] [(7,vI 0)] [] [] (qs (rq hC [oN aK p.arrays] (fr 14 4) [(15,vM aK p.arrays),(16,vI (p.arrays.length:Int)),(17,vI 0)] [] [] (qb (kR h (fun x_=>aZ [(2,vM rI point),(4,V.tp (d7 a)),(7,vI x_.1),(15,vM aK p.arrays),(16,vI (p.arrays.length:Int)),(17,vI x_.2)] [] []) lS ?_)))))
 rintro again3 ⟨x1,x2⟩ h
 refine rq hC [] [18] [(18,vB (decide (x2<(p.arrays.length:Int))))] [] [] (qs (aP h (fun c1 h=> ?_) (fun c1 h=> ?_)))
 ·refine qk (qs (qb ?_))
  obtain⟨x4,hx4,h⟩:=bd h
  refine rq hC [oR aK hx4,.z (.nat 20)] [9,19,20] [(9,V.ref 20 0)] [(20,sc [vS x4.name,vM rI x4.dims])] [(20,true)] (qs (rq hC [] (fr 21 5) [(25,vB (!decide (x4.name=a.array)))] [] [] (aP h (fun c2 h=> ?_) (fun c2 h=> ?_))))
  ·obtain⟨x5,hx5,h⟩:=bd h
   exact rq hC [oV (s9 G hx5)] [7,26,27,28,29] [(7,vI (wr (x1+x5)))] [] [] (dB (rk hC [] [17,70] [(17,vI (wr (x2+1)))] [] [] (lE h)))
  ·refine qk (qs (rq hC [oN aB a.subs,oN rI x4.dims] (fr 30 7) [(36,vB (!decide ((a.subs.length:Int)=(x4.dims.length:Int))))] [] [] (aP h (fun c3 h=> ?_) (fun c3 h=> ?_))))
   ·obtain rfl:=so h
    exact rq hC [] [6] [(6,vI (-1))] [] [] (qr eR)
   ·refine qk (rq hC [] [10] [(10,vI 0)] [] [] (qs (rq hC [oN aB a.subs] (fr 37 4) [(38,vM aB a.subs),(39,vI (a.subs.length:Int)),(40,vI 0)] [] [] (qb (kR h (fun x_=>aZ [(2,vM rI point),(7,vI x1),(9,V.ref 20 0),(10,vI x_.1),(38,vM aB a.subs),(39,vI (a.subs.length:Int)),(40,vI x_.2)] [(20,E.cells [vS x4.name,vM rI x4.dims])] [20]) lS ?_)))))
    rintro again8 ⟨x6,x7⟩ h
    refine rq hC [] [41] [(41,vB (decide (x7<(a.subs.length:Int))))] [] [] (qs (aP h (fun c4 h=> ?_) (fun c4 h=> ?_)))
    ·refine qk (qs (qb ?_))
     obtain⟨x9,hx9,h⟩:=bd h
     refine rq hC [oR aB hx9,.z (.nat 21)] [11,12,42,43,44] [(11,vI x7),(12,V.ref 21 0)] [(21,some (E.cells (aR x9)))] [(21,true)] ?_
     obtain⟨x10,hx10,h⟩:=bd h
     refine rq hC [oV (eS G hx10)] [13,45,46,47] [(13,vI x10)] [] [] (qs ?_)
     obtain⟨x11,hx11,x12,hx12,h⟩:=dS h
     refine rq hC [oR rI hx11,oV (bJ G hx12)] (fr 48 9) [(56,vB (!x12))] [] [] (aP h (fun c5 h=> ?_) (fun c5 h=> ?_))
     ·obtain rfl:=so h
      exact rq hC [] [6] [(6,vI (-1))] [] [] (qr eR)
     ·exact qk (rk hC [oR rI hx11] [10,57,58,59,60,61,62,63,64,65] [(10,vI (wr ((wr (x6*x11))+x10)))] [] [] (rk hC [] [40,66] [(40,vI (wr (x7+1)))] [] [] (lE h)))
    ·obtain rfl:=so h
     exact dB (rq hC [] [6,67,68,69] [(6,vI (wr (x1+x6)))] [] [] (qr eR))
 ·obtain rfl:=so h
  exact dB (rq hC [] [6] [(6,vI (-1))] [] [] (qr eR))
theorem s7(G:GS)(n:Nat)(a:Access)(c0__a1:Prog)(c1__a2:List Int){r:Bool}(h:dF n a c0__a1 c1__a2=some r):PQ G 260 [V.agg (cW a),V.tp (cH c0__a1),V.tp [T.sl (List.map rI c1__a2)]] (vB r):=by
 unfold dF at h
 refine pq aN Tryz.func260 rfl fun w X hC=> ?_
 refine rq hC [.z (.b (true))] [3,4] [(3,V.tp (d7 a))] [] [] ?_
 obtain⟨x1,hx1,h⟩:=bd h
 obtain rfl:=so h
 exact rq hC [oV (fV G hx1)] (fr 4 6) [(4,vB (decide (x1<0)))] [] [] (qr eR)
theorem qB(G:GS)(n:Nat)(s:List Access)(fF:FuncId)(fC0:List T)(fC1:List T)(f:Access→Option Bool)(hf: ∀(q0:Access) r,f q0=some r→PQ G fF [V.agg (cW q0),V.tp fC0,V.tp fC1] (vB r)){r:Int}(h:f9 n s f=some r):PQ G 315 [vM bA s,V.fn fF [V.tp fC0,V.tp fC1]] (vI r):=by
 unfold f9 at h
 refine pq aN Tryz.func315 rfl fun w X hC=> ?_
 refine rq hC [] [4] [] [] [] (qs (rq hC [oN bA s] [6,7,8] [(7,vI (s.length:Int)),(8,vI 0)] [] [] (qb (kR h (fun x_=>aZ [(0,vM bA s),(1,V.fn fF [V.tp fC0,V.tp fC1]),(7,vI (s.length:Int)),(8,vI x_)] [] []) lS ?_))))
 rintro again2 x1 h
 refine rq hC [] [9] [(9,vB (decide (x1<(s.length:Int))))] [] [] (qs (aP h (fun c1 h=> ?_) (fun c1 h=> ?_)))
 ·refine qk (qs (qb (rq hC [] [5,10] [(5,vI x1)] [] [] ?_)))
  obtain⟨x3,hx3,x4,hx4,h⟩:=dS h
  refine rq hC [oR bA hx3,oV (hf x3 _ hx4)] (fr 11 6) [(16,vB x4)] [] [] (aP h (fun c2 h=> ?_) (fun c2 h=> ?_))
  ·obtain rfl:=so h
   exact rq hC [] [4,17] [(4,vI x1)] [] [] (qr eR)
  ·exact qk (rk hC [] [8,18] [(8,vI (wr (x1+1)))] [] [] (lE h))
 ·obtain rfl:=so h
  exact dB (rq hC [] [4] [(4,vI (-1))] [] [] (qr eR))
theorem oD(G:GS)(n:Nat)(s:List Access)(fF:FuncId)(fC0:List T)(fC1:List T)(f:Access→Option Bool)(hf: ∀(q0:Access) r,f q0=some r→PQ G fF [V.agg (cW q0),V.tp fC0,V.tp fC1] (vB r)){r:Bool}(h:dC n s f=some r):PQ G 258 [vM bA s,V.fn fF [V.tp fC0,V.tp fC1]] (vB r):=by
 unfold dC at h
 refine pq aN Tryz.func258 rfl fun w X hC=> ?_
 refine rq hC [] [4] [] [] [] ?_
 obtain⟨x1,hx1,h⟩:=bd h
 obtain rfl:=so h
 exact rq hC [oV (qB G n s fF fC0 fC1 f hf hx1)] (fr 4 5) [(4,vB (decide ((0:Int)≤x1)))] [] [] (qr eR)
theorem vH{p}{s}{point}{r}(h:fT n p s point=some r):PQ G 180 [V.agg (bM p),V.agg (cD s),vM rI point] (vB r):=by
 unfold fT at h
 refine pq aN Tryz.func180 rfl fun w X hC=> ?_
 refine rq hC [.z (.b (true)),.z (.b (true)),.z (.b (true))] (fr 3 4) [(3,V.tp (cH p)),(4,V.tp (mI s)),(5,V.tp [T.sl (List.map rI point)])] [] [] (vj h (fun x_=>aZ [(6,vB x_)] [] []) (fun j1 h=> ?_) (fun x5 h=> ?_))
 ·
  obtain⟨x2,hx2,h⟩:=bd h
  refine aO h (fun c1 h=> ?_) (fun c1 h=> ?_)
  ·exact rk hC ([oV (fV G hx2)]++rF 7 c1) (fr 6 15) [(6,vB false)] [] [] (lE h)
  ·obtain⟨x3,hx3,x4,hx4,h⟩:=dS h
   exact rk hC ([oV (fV G hx2)]++rT 3 c1++[oC [] [20] (aD8 G n s.value hx3),oT c1,oT c1,.z (.b (true)),oV (oD G n x3 260 (cH p) [T.sl (List.map rI point)] (fun q0=>dF n q0 p point) (fun q0 r h=>s7 G n q0 p point h) hx4),oT c1,oT c1]) (fr 6 15) [(6,vB (!x4))] [(20,some (ar 77 1 2 bA x3))] [(20,true)] (lE h)
 ·obtain rfl:=so h
  exact qr eR
theorem rO(G:GS)(n:Nat)(s:List Stmt)(fF:FuncId)(fC0:List T)(f:Stmt→Option Bool)(hf: ∀(q0:Stmt) r,f q0=some r→PQ G fF [V.agg (cD q0),V.tp fC0] (vB r)){r:Int}(h:iC n s f=some r):PQ G 254 [vM aG s,V.fn fF [V.tp fC0]] (vI r):=by
 unfold iC at h
 refine pq aN Tryz.func254 rfl fun w X hC=> ?_
 refine rq hC [] [4] [] [] [] (qs (rq hC [oN aG s] [6,7,8] [(7,vI (s.length:Int)),(8,vI 0)] [] [] (qb (kR h (fun x_=>aZ [(0,vM aG s),(1,V.fn fF [V.tp fC0]),(7,vI (s.length:Int)),(8,vI x_)] [] []) lS ?_))))
 rintro again2 x1 h
 refine rq hC [] [9] [(9,vB (decide (x1<(s.length:Int))))] [] [] (qs (aP h (fun c1 h=> ?_) (fun c1 h=> ?_)))
 ·refine qk (qs (qb (rq hC [] [5,10] [(5,vI x1)] [] [] ?_)))
  obtain⟨x3,hx3,x4,hx4,h⟩:=dS h
  refine rq hC [oR aG hx3,oV (hf x3 _ hx4)] (fr 11 6) [(16,vB x4)] [] [] (aP h (fun c2 h=> ?_) (fun c2 h=> ?_))
  ·obtain rfl:=so h
   exact rq hC [] [4,17] [(4,vI x1)] [] [] (qr eR)
  ·exact qk (rk hC [] [8,18] [(8,vI (wr (x1+1)))] [] [] (lE h))
 ·obtain rfl:=so h
  exact dB (rq hC [] [4] [(4,vI (-1))] [] [] (qr eR))
theorem pA(G:GS)(n:Nat)(s:List Stmt)(fF:FuncId)(fC0:List T)(f:Stmt→Option Bool)(hf: ∀(q0:Stmt) r,f q0=some r→PQ G fF [V.agg (cD q0),V.tp fC0] (vB r)){r:Bool}(h:d6 n s f=some r):PQ G 176 [vM aG s,V.fn fF [V.tp fC0]] (vB r):=by
 unfold d6 at h
 refine pq aN Tryz.func176 rfl fun w X hC=> ?_
 refine rq hC [] [4] [] [] [] ?_
 obtain⟨x1,hx1,h⟩:=bd h
 obtain rfl:=so h
 exact rq hC [oV (rO G n s fF fC0 f hf hx1)] (fr 4 5) [(4,vB (decide ((0:Int)≤x1)))] [] [] (qr eR)
theorem kV{p}{r}(h:cX n p=some r):VQ G 79 [] [V.agg (bM p)] (V.tup [ms 0 1 3 bZ r.1,vB r.2]) [ar 112 1 3 bZ r.1]:=by
 unfold cX at h
 refine vq aN Tryz.func79 rfl fun w X β0 hC hg=> ?_
 refine rq hC [.z (.b (true))] [1,2,3] [(1,V.tp (cH p))] [] [] (qs (vj h (fun x_=>aZ [(1,V.tp (cH p)),(22,vB x_)] [] []) (fun j1 h=> ?_) (fun x3 h=> ?_)))
 ·
  obtain⟨x2,hx2,h⟩:=bd h
  refine aO h (fun c1 h=> ?_) (fun c1 h=> ?_)
  ·exact rk hC ([oV (wV G hx2)]++rF 3 c1++[oN aC p.parts,oF c1,oF c1]) (fr 13 10) [(22,vB (decide ((4:Int)<(p.parts.length:Int))))] [] [] (lE h)
  ·exact rk hC ([oV (wV G hx2)]++rT 5 c1) (fr 13 10) [(22,vB true)] [] [] (lE h)
 ·refine aP h (fun c2 h=> ?_) (fun c2 h=> ?_)
  ·obtain rfl:=so h
   exact rq hC [] [2,3] [(2,V.t T.nilS),(3,vB false)] [] [] (qw (lk hC [.grow 2 0 112] [2] [(2,ms 0 1 3 bZ [])] [(0,some (ar 112 1 3 bZ []))] [(0,true)]) (qr eW))
  ·refine qk (rq hC [] [4] [(4,V.t T.nilS)] [] [] (qs (rq hC [oN aC p.parts] (fr 23 4) [(24,vM aC p.parts),(25,vI (p.parts.length:Int)),(26,vI 0)] [] [] (qb (qw (lk hC [.grow 4 20 112] [4] [(4,ms 20 1 3 bZ [])] [(20,some (ar 112 1 3 bZ []))] [(20,true)]) ?_)))))
   refine bF (γ:=Nat) h (fun x_ g_=>aZ [(1,V.tp (cH p)),(4,ms 20 g_ 3 bZ x_.1),(24,vM aC p.parts),(25,vI (p.parts.length:Int)),(26,vI x_.2)] [(20,ar 112 g_ 3 bZ x_.1)] [20]) 1 (lS) ?_
   rintro again7 ⟨x4,x5⟩ g6 h
   refine rq hC [] [27] [(27,vB (decide (x5<(p.parts.length:Int))))] [] [] (qs (aP h (fun c3 h=> ?_) (fun c3 h=> ?_)))
   ·refine qk (qs (qb ?_))
    obtain⟨x8,hx8,h⟩:=bd h
    refine rq hC [oR aC hx8,.z (.nat 21),.z (.at 0),.z (.fp 21 [6])] [5,6,28,29,30] [(5,vI x5),(6,V.tp (oJ x8))] [(21,none)] [(21,true)] ?_
    obtain⟨x9,hx9,h⟩:=bd h
    refine rq hC [oC [] [22] (L1 G hx9)] [7,8,31,32,33,34,35,36] [(7,ms 22 1 1 (rL rI) x9.1),(8,vB x9.2)] [(22,some (ar 48 1 1 (rL rI) x9.1))] [(22,true)] (qs (vj h (fun x_=>aZ [(1,V.tp (cH p)),(4,ms 20 g6 3 bZ x4),(5,vI x5),(6,V.tp (oJ x8)),(7,ms 22 1 1 (rL rI) x9.1),(24,vM aC p.parts),(25,vI (p.parts.length:Int)),(26,vI x5),(51,vB x_)] [(20,ar 112 g6 3 bZ x4),(22,ar 48 1 1 (rL rI) x9.1)] [20,21,22]) (fun j10 h=> ?_) (fun x13 h=> ?_)))
    ·
     refine aO h (fun c4 h=> ?_) (fun c4 h=> ?_)
     ·obtain⟨x11,hx11,h⟩:=bd h
      refine aO h (fun c5 h=> ?_) (fun c5 h=> ?_)
      ·obtain⟨x12,hx12,h⟩:=bd h
       exact rk hC (rF 3 c4++[oN aG x8.body,oF c4,oV (bJ G hx11),oF c4,oF c4]++rF 4 c5++[oV (pA G n x8.body 177 (oJ x8) (fun q0=>cG n q0 x8) (fun q0 r h=>qC G n q0 x8 h) hx12),oF c5]) (fr 37 15) [(51,vB x12)] [] [] (lE h)
      ·exact rk hC (rF 3 c4++[oN aG x8.body,oF c4,oV (bJ G hx11),oF c4,oF c4]++rT 5 c5) (fr 37 15) [(51,vB true)] [] [] (lE h)
     ·exact rk hC (rT 6 c4++sT 5) (fr 37 15) [(51,vB true)] [] [] (lE h)
    ·refine aP h (fun c6 h=> ?_) (fun c6 h=> ?_)
     ·obtain rfl:=so h
      exact rq hC [] [2,3] [(2,V.t T.nilS),(3,vB false)] [] [] (qw (lk hC [.grow 2 0 112] [2] [(2,ms 0 1 3 bZ [])] [(0,some (ar 112 1 3 bZ []))] [(0,true)]) (qr eW))
     ·refine qk (rq hC [oN (rL rI) x9.1] [52,53,54] [(52,ms 22 1 1 (rL rI) x9.1),(53,vI (x9.1.length:Int)),(54,vI 0)] [] [] (qb (bF (γ:=Nat) h (fun x_ g_=>aZ [(1,V.tp (cH p)),(4,ms 20 g_ 3 bZ x_.1),(5,vI x5),(6,V.tp (oJ x8)),(24,vM aC p.parts),(25,vI (p.parts.length:Int)),(26,vI x5),(52,ms 22 1 1 (rL rI) x9.1),(53,vI (x9.1.length:Int)),(54,vI x_.2)] [(20,ar 112 g_ 3 bZ x_.1),(22,ar 48 1 1 (rL rI) x9.1)] [20,21,22]) g6 (lS) ?_)))
      rintro again17 ⟨x14,x15⟩ g16 h
      refine rq hC [] [55] [(55,vB (decide (x15<(x9.1.length:Int))))] [] [] (qs (aP h (fun c7 h=> ?_) (fun c7 h=> ?_)))
      ·refine qk (qs (qb ?_))
       obtain⟨x18,hx18,h⟩:=bd h
       refine rq hC [oQ (mJ (rL rI) hx18),oX (rL rI) hx18] [10,56,57] [(10,vM rI x18)] [] [] (qs ?_)
       obtain⟨x19,hx19,h⟩:=bd h
       refine rq hC [oV (aBk G hx19)] [58,59,60] [(60,vB (!x19))] [] [] (aP h (fun c8 h=> ?_) (fun c8 h=> ?_))
       ·obtain rfl:=so h
        exact rq hC [] [2,3] [(2,V.t T.nilS),(3,vB false)] [] [] (qw (lk hC [.grow 2 0 112] [2] [(2,ms 0 1 3 bZ [])] [(0,some (ar 112 1 3 bZ []))] [(0,true)]) (qr eW))
       ·refine qk (rq hC [oN aG x8.body] (fr 61 4) [(62,vM aG x8.body),(63,vI (x8.body.length:Int)),(64,vI 0)] [] [] (qb (bF (γ:=Nat) h (fun x_ g_=>aZ [(1,V.tp (cH p)),(4,ms 20 g_ 3 bZ x_.1),(5,vI x5),(6,V.tp (oJ x8)),(10,vM rI x18),(24,vM aC p.parts),(25,vI (p.parts.length:Int)),(26,vI x5),(52,ms 22 1 1 (rL rI) x9.1),(53,vI (x9.1.length:Int)),(54,vI x15),(62,vM aG x8.body),(63,vI (x8.body.length:Int)),(64,vI x_.2)] [(20,ar 112 g_ 3 bZ x_.1),(22,ar 48 1 1 (rL rI) x9.1)] [20,21,22]) g16 (lS) ?_)))
        rintro again23 ⟨x20,x21⟩ g22 h
        refine rq hC [] [65] [(65,vB (decide (x21<(x8.body.length:Int))))] [] [] (qs (aP h (fun c9 h=> ?_) (fun c9 h=> ?_)))
        ·refine qk (qs (qb ?_))
         obtain⟨x24,hx24,h⟩:=bd h
         refine rq hC [oR aG hx24,.z (.nat 23)] [11,12,66,67,68] [(11,vI x21),(12,V.ref 23 0)] [(23,some (E.cells (cD x24)))] [(23,true)] (qs ?_)
         obtain⟨x25,hx25,h⟩:=bd h
         refine rq hC [oV (vH G hx25)] (fr 69 5) [(73,vB (!x25))] [] [] (aP h (fun c10 h=> ?_) (fun c10 h=> ?_))
         ·obtain rfl:=so h
          exact rq hC [] [2,3] [(2,V.t T.nilS),(3,vB false)] [] [] (qw (lk hC [.grow 2 0 112] [2] [(2,ms 0 1 3 bZ [])] [(0,some (ar 112 1 3 bZ []))] [(0,true)]) (qr eW))
         ·refine qk ?_
          obtain⟨x26,hx26,x27,hx27,h⟩:=dS h
          exact rk hC [oC [] [24] (G.clone x18 hx26),.z (.at 4),.z (.fz 24 [78] []),.z (.int 0),oA (aQ bZ hx27),oQ (cE (r:=bZ) 3 O8 x20),oQ (cE (r:=bZ) 3 O8 [(⟨x5,x21,x26⟩:Inst)])] [4,74,75,76,77,78,79,80,81] [(4,ms 20 (g22+1) 3 bZ x27)] [(24,none),(20,some (ar 112 (g22+1) 3 bZ x27))] [(24,true)] (rk hC [] [64,82] [(64,vI (wr (x21+1)))] [] [] ⟨(x27,wr (x21+1)),(g22+1),h,lS⟩)
        ·exact dB (rk hC [] [54,83] [(54,vI (wr (x15+1)))] [] [] ⟨(x20,wr (x15+1)),g22,h,lS⟩)
      ·exact dB (rk hC [] [26,84] [(26,vI (wr (x5+1)))] [] [] ⟨(x14,wr (x5+1)),g16,h,lS⟩)
   ·obtain rfl:=so h
    exact dB (rq hC [oN bZ x4] [2,3,85,86,87,88] [(2,ms 20 g6 3 bZ x4),(3,vB (decide ((x4.length:Int)≤120)))] [] [] (qw (lk hC [.ren 2 20 0] [2] [(2,ms 0 1 3 bZ x4)] [(0,some (ar 112 1 3 bZ x4)),(20,none)] [(0,true)]) (qr eW)))
theorem cA{p}{r}(h:dN n p=some r):PQ G 19 [V.agg (bM p)] (vB r):=by
 unfold dN at h
 refine pq aN Tryz.func19 rfl fun w X hC=> ?_
 refine rq hC [.z (.b (true))] [1,2] [(1,V.tp (cH p))] [] [] ?_
 obtain⟨x1,hx1,h⟩:=bd h
 obtain rfl:=so h
 exact rq hC [oC [] [20] (kV G hx1)] (fr 3 7) [(4,vB x1.2)] [(20,some (ar 112 1 3 bZ x1.1))] [(20,true)] (rq hC [] [2,10] [(2,vB x1.2)] [] [] (qr eR))
abbrev scV(s:Stmt):List V:=(cD s)
theorem rK{p}{r}(h:gK n p=some r):PQ G 16 [V.agg (bM p)] (V.tup [V.agg (bM r.1),vB r.2]):=by
 unfold gK at h
 refine pq aN Tryz.func16 rfl fun w X hC=> ?_
 refine rq hC [.z (.b (true)),.z (.nat 20)] [1,2,3] [(1,V.tp (cH p)),(2,V.ref 20 0),(3,vB false)] [(20,sc [V.t T.nilS,V.t T.nilS])] [(20,true)] (qs ?_)
 obtain⟨x1,hx1,h⟩:=bd h
 refine rq hC [oV (cA G hx1)] [9,10,11] [(11,vB (!x1))] [] [] (aP h (fun c1 h=> ?_) (fun c1 h=> ?_))
 ·obtain rfl:=so h
  exact rq hC [] [3,12] [(3,vB false)] [(20,sc [V.t T.nilS,V.t T.nilS])] [] (qr eR)
 ·refine qk ?_
  obtain⟨x2,hx2,h⟩:=bd h
  refine rq hC [oC [] [21,22] (wX G hx2),.z (.nat 23)] [4,13,14] [(4,V.ref 23 0)] [(21,some (ar 90 1 2 aK x2.arrays)),(22,some (E.tree o7 0 1 (List.map aC x2.parts) [])),(23,sc [ms 21 1 2 aK x2.arrays,ms 22 1 2 aC x2.parts])] [(21,true),(22,true),(23,true)] (qs (rq hC [oN aC x2.parts] (fr 15 4) [(16,ms 22 1 2 aC x2.parts),(17,vI (x2.parts.length:Int)),(18,vI 0)] [] [] (qb (kR h (fun x_=>aZ [(2,V.ref 20 0),(4,V.ref 23 0),(16,ms 22 1 2 aC x_.1),(17,vI (x2.parts.length:Int)),(18,vI x_.2)] [(20,E.cells [V.t T.nilS,V.t T.nilS]),(21,ar 90 1 2 aK x2.arrays),(22,E.tree o7 0 1 (List.map aC x_.1) []),(23,E.cells [ms 21 1 2 aK x2.arrays,ms 22 1 2 aC x_.1])] [20,21,22,23]) lS ?_))))
  rintro again3 ⟨z1,z2⟩ h
  refine rq hC [] [19] [(19,vB (decide (z2<(x2.parts.length:Int))))] [] [] (qs (aP h (fun c2 h=> ?_) (fun c2 h=> ?_)))
  ·refine qk (qs (qb ?_))
   obtain⟨x3,hx3,h⟩:=bd h
   refine rq hC [.z (.foc 22 24 (0+Int.toNat z2) 1 (aC x3)),.z (.foc 22 27 (0+Int.toNat z2) 0 (aC x3)),oX aC hx3,.z (.nat 25),oQ (tR aC hx3),oQ (mJ aC hx3),oQ (tR aC hx3)] [6,20,21] [(6,V.ref 25 0)] [(22,some (E.tree o7 0 1 (List.map aC z1) [((0+Int.toNat z2),0,ms 27 1 2 aD x3.nest),((0+Int.toNat z2),1,ms 24 1 9 aG x3.body)])),(24,some (E.tree o7 2 1 (List.map aG x3.body) [])),(27,some (E.tree o7 1 1 (List.map aD x3.nest) [])),(25,sc [ms 27 1 2 aD x3.nest,ms 24 1 9 aG x3.body])] [(24,true),(27,true),(25,true)] (qw (lk hC [.shd 24] [] [] [(24,some (ar 84 1 9 aG x3.body))] []) (rq hC [oN aG x3.body] (fr 22 4) [(23,ms 24 1 9 aG x3.body),(24,vI (x3.body.length:Int)),(25,vI 0)] [] [] (qb (kR h (fun x_=>aZ [(2,V.ref 20 0),(4,V.ref 23 0),(16,ms 22 1 2 aC z1),(17,vI (x2.parts.length:Int)),(18,vI z2),(6,V.ref 25 0),(23,ms 24 1 9 aG x_.1),(24,vI (x3.body.length:Int)),(25,vI x_.2)] [(20,E.cells [V.t T.nilS,V.t T.nilS]),(21,ar 90 1 2 aK x2.arrays),(22,E.tree o7 0 1 (List.map aC z1) [((0+Int.toNat z2),0,ms 27 1 2 aD x3.nest),((0+Int.toNat z2),1,ms 24 1 9 aG x3.body)]),(23,E.cells [ms 21 1 2 aK x2.arrays,ms 22 1 2 aC z1]),(24,ar 84 1 9 aG x_.1),(25,E.cells [ms 27 1 2 aD x3.nest,ms 24 1 9 aG x_.1]),(27,E.tree o7 1 1 (List.map aD x3.nest) [])] [20,21,22,23,24,25,27]) lS ?_))))
   rintro again4 ⟨y1,y2⟩ h
   refine rq hC [] [26] [(26,vB (decide (y2<(x3.body.length:Int))))] [] [] (qs (aP h (fun c3 h=> ?_) (fun c3 h=> ?_)))
   ·refine qk (qs (qb ?_))
    obtain⟨x4,hx4,h⟩:=bd h
    refine rq hC [oQ (mJ aG hx4),oX aG hx4,.z (.nat 26)] [7,8,27,28,29] [(7,vI y2),(8,V.ref 26 0)] [(26,some (E.cells (scV x4)))] [(26,true)] ?_
    obtain⟨x5,hx5,x6,hx6,h⟩:=dS h
    exact dk hC bQ [oV (aCH G hx5),oQ (mJ aG hx4),oX aG hx4,.z (.rows (List.map aG x6)),oQ (str aG hx6)] (fr 30 6) [] [(24,some (ar 84 1 9 aG x6))] [] (qw (xA hC [.len 23 (List.map aG x6).length,.lenc 25 1 (List.map aG x6).length] [23] [(23,ms 24 1 9 aG x6)] [(25,sc [ms 27 1 2 aD x3.nest,ms 24 1 9 aG x6])] [] (a2 (nU aG hx6) (nU aG hx6)) (by kernel_rfl)) (rk hC [] [25,36] [(25,vI (wr (y2+1)))] [] [] (lE h)))
   ·refine dB ?_
    obtain⟨x8,hx8,x7,hx7,h⟩:=dS h
    exact qw (xA hC [.unf 22 27 (aC x3) (List.map aC z1),.tre 24 o7 2,.unf 22 24 (aC x3) (List.map aC x7),.len 16 (List.map aC x7).length,.lenc 23 1 (List.map aC x7).length] [16] [(16,ms 22 1 2 aC x7)] [(24,none),(27,none),(22,some (E.tree o7 0 1 (List.map aC x7) [])),(23,sc [ms 21 1 2 aK x2.arrays,ms 22 1 2 aC x7])] [] (a10 (Eq.refl (List.map aD x3.nest).length) (Eq.refl o7) (tR aC hx3) (yP aC hx3 rfl) (aEJ aG hx8) (Eq.refl o7) (tR aC hx3) (aAr aC hx7 rfl) (nU aC hx7) (nU aC hx7)) (by kernel_rfl)) (rk hC [] [18,37] [(18,vI (wr (z2+1)))] [] [] (lE h))
  ·obtain rfl:=so h
   exact dB (rq hC [] [3,38] [(3,vB true)] [(20,sc [ms 21 1 2 aK x2.arrays,ms 22 1 2 aC z1])] [] (qw (lk hC [.shd 22,.fz 21 [] [20],.fz 22 [] [20]] [] [] [(22,none),(21,none),(20,sc [vM aK x2.arrays,vM aC z1])] []) (qr eR)))
theorem pY{x}{r}(h:fP n x=some r):PQ G 384 [V.agg (aR x)] (V.agg (aR r)):=by
 unfold fP at h
 refine pq aN Tryz.func384 rfl fun w X hC=> ?_
 refine rq hC [.z (.nat 20),.z (.nat 21)] [1,2] [(1,V.ref 20 0),(2,V.ref 21 0)] [(20,some (E.cells (aR x))),(21,sc [V.t T.nilS,vI 0])] [(20,true),(21,true)] ?_
 obtain⟨x1,hx1,h⟩:=bd h
 obtain rfl:=so h
 exact rq hC [.z (.nat 22),oA (aQ rI hx1),oQ (cE (r:=rI) 1 (fun _=>rfl) []),oQ (cE (r:=rI) 1 (fun _=>rfl) x.coefs)] (fr 3 5) [] [(22,some (ar 3 2 1 rI x1)),(20,sc [ms 22 2 1 rI x1,vI x.const])] [(22,true)] (rq hC [.z (.at 2),.z (.fz 22 [] [20])] [8] [] [(20,sc [vM rI x1,vI x.const]),(22,none),(21,sc [vM rI x1,vI x.const])] [] (qr eR))
end Go.Lift
